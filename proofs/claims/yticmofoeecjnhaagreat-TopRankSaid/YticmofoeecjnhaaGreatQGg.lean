/- Walks, contracts and laws of the law's functions: part 7. No condition. -/
import Derived.Test.YticmofoeecjnhaaGreatQGf
open Go.Proofs
set_option maxHeartbeats 32000000
set_option maxRecDepth 100000
set_option linter.unusedSimpArgs false
namespace Go.HL
namespace Tp
namespace GM
theorem xet:∀ (a b:Nat),a<60->b<4->39<=a->zha (zib (a+1) (b+1))=true/\(!(send (new []) (cut (a+1))).todo.isEmpty)=true
 | 0,b,h,hb,hc=>absurd hc zz3
 | 1,b,h,hb,hc=>absurd hc zz3
 | 2,b,h,hb,hc=>absurd hc zz3
 | 3,b,h,hb,hc=>absurd hc zz3
 | 4,b,h,hb,hc=>absurd hc zz3
 | 5,b,h,hb,hc=>absurd hc zz3
 | 6,b,h,hb,hc=>absurd hc zz3
 | 7,b,h,hb,hc=>absurd hc zz3
 | 8,b,h,hb,hc=>absurd hc zz3
 | 9,b,h,hb,hc=>absurd hc zz3
 | 10,b,h,hb,hc=>absurd hc zz3
 | 11,b,h,hb,hc=>absurd hc zz3
 | 12,b,h,hb,hc=>absurd hc zz3
 | 13,b,h,hb,hc=>absurd hc zz3
 | 14,b,h,hb,hc=>absurd hc zz3
 | 15,b,h,hb,hc=>absurd hc zz3
 | 16,b,h,hb,hc=>absurd hc zz3
 | 17,b,h,hb,hc=>absurd hc zz3
 | 18,b,h,hb,hc=>absurd hc zz3
 | 19,b,h,hb,hc=>absurd hc zz3
 | 20,b,h,hb,hc=>absurd hc zz3
 | 21,b,h,hb,hc=>absurd hc zz3
 | 22,b,h,hb,hc=>absurd hc zz3
 | 23,b,h,hb,hc=>absurd hc zz3
 | 24,b,h,hb,hc=>absurd hc zz3
 | 25,b,h,hb,hc=>absurd hc zz3
 | 26,b,h,hb,hc=>absurd hc zz3
 | 27,b,h,hb,hc=>absurd hc zz3
 | 28,b,h,hb,hc=>absurd hc zz3
 | 29,b,h,hb,hc=>absurd hc zz3
 | 30,b,h,hb,hc=>absurd hc zz3
 | 31,b,h,hb,hc=>absurd hc zz3
 | 32,b,h,hb,hc=>absurd hc zz3
 | 33,b,h,hb,hc=>absurd hc zz3
 | 34,b,h,hb,hc=>absurd hc zz3
 | 35,b,h,hb,hc=>absurd hc zz3
 | 36,b,h,hb,hc=>absurd hc zz3
 | 37,b,h,hb,hc=>absurd hc zz3
 | 38,b,h,hb,hc=>absurd hc zz3
 | 39,b,h,hb,hc=>⟨zy26.1 (zck xja) b (zy53.2 hb),zeb xja⟩
 | 40,b,h,hb,hc=>⟨zy26.1 (zck xjb) b (zy53.2 hb),zeb xjb⟩
 | 41,b,h,hb,hc=>⟨zy26.1 (zck xjc) b (zy53.2 hb),zeb xjc⟩
 | 42,b,h,hb,hc=>⟨zy26.1 (zck xjd) b (zy53.2 hb),zeb xjd⟩
 | 43,b,h,hb,hc=>⟨zy26.1 (zck xje) b (zy53.2 hb),zeb xje⟩
 | 44,b,h,hb,hc=>⟨zy26.1 (zck xjf) b (zy53.2 hb),zeb xjf⟩
 | 45,b,h,hb,hc=>⟨zy26.1 (zck xjg) b (zy53.2 hb),zeb xjg⟩
 | 46,b,h,hb,hc=>⟨zy26.1 (zck xjh) b (zy53.2 hb),zeb xjh⟩
 | 47,b,h,hb,hc=>⟨zy26.1 (zck xji) b (zy53.2 hb),zeb xji⟩
 | 48,b,h,hb,hc=>⟨zy26.1 (zck xjj) b (zy53.2 hb),zeb xjj⟩
 | 49,b,h,hb,hc=>⟨zy26.1 (zck xjk) b (zy53.2 hb),zeb xjk⟩
 | 50,b,h,hb,hc=>⟨zy26.1 (zck xjl) b (zy53.2 hb),zeb xjl⟩
 | 51,b,h,hb,hc=>⟨zy26.1 (zck xjm) b (zy53.2 hb),zeb xjm⟩
 | 52,b,h,hb,hc=>⟨zy26.1 (zck xjn) b (zy53.2 hb),zeb xjn⟩
 | 53,b,h,hb,hc=>⟨zy26.1 (zck xjo) b (zy53.2 hb),zeb xjo⟩
 | 54,b,h,hb,hc=>⟨zy26.1 (zck xjp) b (zy53.2 hb),zeb xjp⟩
 | 55,b,h,hb,hc=>⟨zy26.1 (zck xjq) b (zy53.2 hb),zeb xjq⟩
 | 56,b,h,hb,hc=>⟨zy26.1 (zck xjr) b (zy53.2 hb),zeb xjr⟩
 | 57,b,h,hb,hc=>⟨zy26.1 (zck xjs) b (zy53.2 hb),zeb xjs⟩
 | 58,b,h,hb,hc=>⟨zy26.1 (zck xjt) b (zy53.2 hb),zeb xjt⟩
 | 59,b,h,hb,hc=>⟨zy26.1 (zck xju) b (zy53.2 hb),zeb xju⟩
 | n+60,b,h,hb,hc=>absurd h zz0
end GM
end Tp
namespace Tp
open Ser Snd Ln
section
variable {E:List Int} {c:Config} {n d N h S:Nat} {k f T:Int} {P:Nat} {Cs:List CH} {l:zdn} {g:GM}
theorem LX.log (r:LX E c n d k N h S f T P Cs l g) (h1:g.todo=[]) (h2:g.out=[]) (h3:g.R=g.a):l.receiver.log=((RS.new h).run (Cs.drop h)).lg/\l.sender.queue=[]/\l.sender.out=[]:=by
 have htd:=r.lr.sr.todo;rw [h1] at htd;have hz:=zy125.1 htd.symm;have hle:Cs.length<=g.a+g.out.length:=List.drop_eq_nil_iff.1 hz;have hal:=r.lr.alen;rw [h2,zy13] at hle hal;have hR:g.R=Cs.length:=by omega
 refine ⟨?_,ybb r.lr.si r.lr.sr.qc (by rw [r.lr.sr.rest,hz]),zy67.1 (by rw [r.lr.sr.len,h2];rfl)⟩;have hl:=r.lr.cs.hl;rcases r.lr.rr.ri with ⟨e1,e2,-⟩ | ⟨-,e⟩
 . omega
 . have:=e.log
   rw [this,hR,zy36 (by rw [zy34];omega)]
theorem yky (h:GM.zha g=true):g.ok=true/\g.todo=[]/\g.out=[]/\g.way=[]/\g.R=g.a:=by
 have h1:=GM.zck h;have h2:=GM.zeb h1;unfold GM.busy at h2;rw [Bool.not_not] at h2;exact ⟨GM.zck h1,zy123.1 (GM.zck (GM.zck h2)),zy123.1 (GM.zeb (GM.zck h2)),zy123.1 (GM.zeb h2),zy4 (GM.zeb h)⟩
theorem yrp {m:Nat} (hf:GM.zha (GM.settle h m g)=true):g.ok=true:=zqz m (GM.zck (GM.zck hf))
theorem yzu {t:List Nat} (h:(GM.send g t).ok=true):g.ok=true:=by
 have:=ziv h;exact this
end
theorem zsv {S:Nat}:∀ {a b:List CH} {st:RS},zqd S st a->zqd S (st.run a) b->zqd S st (a++b)
 | [],_,_,_,h=>h
 | _::_,_,_,h,k=>⟨h.1,h.2.1,h.2.2.1,h.2.2.2.1,h.2.2.2.2.1,zsv h.2.2.2.2.2 k⟩
theorem yab {S k mid:Nat} (hk:k<S) {d:List UInt8} {st:RS} (hd:1<=d.length/\d.length<=60) (h1:st.T k=mid) (h2:st.U k=[]) (h3:mid<1000):zqd S st (zfy k mid d.length 0 d):=by
 have:=ylc hk d.length 0 d st [] (zy18 _) hd.1 h1 (by rw [h2];rfl) h3 (by rw [h2];show 0+d.length<=60;omega) trivial
 rwa [zy7] at this
theorem xbq {s:zab} {st life:Int} {D:List UInt8} (h1:0<=st/\st<s.config.streams) (hl:0<=life/\life<=1000) (hD:1<=D.length/\D.length<=60) (hq:(s.queue.length:Int)<s.config.waiting):zem s (sm st life D)=0:=by
 unfold zem;rw [zy0,zy0,zy0]
 . omega
 . show ¬ (D.length<1\/D.length>60);omega
 . show ¬ (st<0\/st>=s.config.streams\/life<0\/life>1000\/(0:Int)<0\/(0:Int)>1000)
   omega
theorem xbg {S k mid:Nat} {f:Int} {D:List UInt8} (hk:k<S) (hS:S=1\/S=2) (hD:1<=D.length/\D.length<=60) (hf:0<=f/\f<65536) (hm:mid=0):yqn 0 S f (zfy k mid D.length 0 D):=by
 subst hm;refine ⟨by have:=zok (k:=k) (mid:=0) D.length 0 D;omega,zua (by omega) (by decide) _ _ _ (by omega) hD.1,hf.1,hf.2,?_,.inl rfl,hS,zy104 _⟩;exact yab hk hD rfl rfl zz3
def ywx (first:Int):Config:=⟨1,4,60,1,1,12,first⟩
def csR (D:List UInt8):Nat->List CH
 | 0=>[]
 | t+1=>csR D t++zfy 0 t D.length 0 D
def ytj (first:Int) (D:List UInt8):Nat->zdn
 | 0=>zns (ywx first)
 | t+1=>(doS (ytj first D t) ⟨1,0,sm 0 0 D⟩).1
theorem ykh {D:List UInt8} (hD:1<=D.length/\D.length<=60) {first:Int} (hf:0<=first/\first<65536):∀ t,t<=12->yqn 0 1 first (csR D t)/\ends (csR D t)=t/\(csR D t).length<=60*t/\((RS.new 0).run (csR D t)).T 0=t/\((RS.new 0).run (csR D t)).U 0=[]/\((RS.new 0).run (csR D t)).lg=(List.range t).map fun j=>⟨0,(j:Int),true,D⟩
 | 0,_=>⟨⟨show 0<=1000 by decide,fun x hx=>(by cases hx),hf.1,hf.2,trivial,.inl rfl,.inl rfl,zy18 _⟩,rfl,zy18 _,rfl,rfl,rfl⟩
 | t+1,ht=>by
  obtain ⟨h1,h2,h3,h4,h5,h6⟩:=ykh hD hf t (by omega);have hl:=zok (k:=0) (mid:=t) D.length 0 D;have zdz:(RS.new 0).run (csR D (t+1))=((RS.new 0).run (csR D t)).done 0 D:=by
   show (RS.new 0).run (csR D t++_)=_;rw [zvl,ybg _ _ _ _ (zy18 _) hD.1]
  refine ⟨⟨?_,fun x hx=>?_,hf.1,hf.2,?_,.inl rfl,.inl rfl,zy104 _⟩,?_,?_,?_,?_,?_⟩
  . show (csR D t++_).length<=1000
    rw [zy5];omega
  . rcases zy14.1 (show x∈csR D t++_ from hx) with hx | hx
    . exact h1.zha x hx
    . exact zua (by decide) (by omega) _ _ _ (by omega) hD.1 x hx
  . exact zsv h1.zqd (yab (by decide) hD h4 h5 (by omega))
  . show ends (csR D t++_)=_
    rw [zzq,h2,zoj _ _ _ (zy18 _) hD.1]
  . show (csR D t++_).length<=_
    rw [zy5];omega
  . rw [zdz]
    show at1 ((RS.new 0).run (csR D t)).T 0 (((RS.new 0).run (csR D t)).T 0+1) 0=t+1;rw [zsp,h4]
  . rw [zdz]
    show at1 ((RS.new 0).run (csR D t)).U 0 [] 0=[];exact zsp _ _ _
  . rw [zdz]
    show ((RS.new 0).run (csR D t)).lg++[⟨0,((((RS.new 0).run (csR D t)).T 0:Nat):Int),true,(((RS.new 0).run (csR D t)).U 0).flatten++D⟩]=_;rw [h4,h5,h6,List.range_succ,zy33];rfl
theorem zvj {D:List UInt8} (hD:1<=D.length/\D.length<=60) {first:Int} (hf:0<=first/\first<65536):∀ t,t<=12->(GM.ynd D.length t).ok=true->LX [(t:Int),0] (ywx first) t 0 0 t 0 1 first 100000 1 (csR D t) (ytj first D t) (GM.ynd D.length t)
 | 0,_,_=>xbc (c:=ywx first) (by
  unfold zni ywx;dsimp only;rw [zy0 (by omega),zy0 (by decide)]) (.inl rfl) rfl rfl rfl rfl (.inl rfl) ⟨by decide,by decide⟩
 | t+1,ht,hok=>by
  have ih:=zvj hD hf t (by omega) (yzu hok);have:=yzt ih (st:=0) (life:=0) (D:=D) (mid:=t) rfl (show (0:Int)<1 by decide) ⟨by decide,by decide,.inl ⟨rfl,rfl⟩⟩ hD (by rw [(ykh hD hf t (by omega)).2.1];show ((t:Nat):Int)<12;omega) zz0 rfl (ykh hD hf (t+1) ht).1 hok;have e:yir [(t:Int),0] 0=[((t+1:Nat):Int),0]:=by
   show [W ((t:Int)+1),0]=_;rw [zbh (by omega) (by omega)];rfl
  rw [e] at this;exact this
theorem yfi {D:List UInt8} (hD:1<=D.length/\D.length<=60) {first:Int} (hf:0<=first/\first<65536) {t:Nat} (ht:1<=t/\t<=12) (hev:GM.zha (GM.xbp D.length t)=true):(zet 400 (ytj first D t)).1.receiver.log=(List.range t).map fun j=>⟨0,(j:Int),true,D⟩:=by
 unfold GM.xbp at hev;have r:=zvj hD hf t ht.2 (yrp hev);obtain ⟨k2,r3⟩:=zvo 400 r rfl zz3 hev;obtain ⟨f1,f2,f3,f4,f5⟩:=yky hev;rw [(r3.log f2 f3 f5).1];exact (ykh hD hf t ht.2).2.2.2.2.2
theorem yfm {j:Nat}:∀ {l:List CH} {st:RS},(∀ x∈l,x.stream≠j)->(st.run l).T j=st.T j/\(st.run l).U j=st.U j
 | [],_,_=>⟨rfl,rfl⟩
 | x::l,st,h=>by
  have hx:=h x zz5;obtain ⟨i1,i2⟩:=yfm (l:=l) (st:=st.step x) fun y hy=>h y zz42
  have e:∀ (α:Type) (F:Nat->α) (y:α),at1 F x.stream y j=F j:=fun α F y=>zy0 fun e=>hx e.symm
  have hs:(st.step x).T j=st.T j/\(st.step x).U j=st.U j:=by
   unfold RS.step;split
   . exact ⟨e _ _ _,e _ _ _⟩
   . exact ⟨rfl,e _ _ _⟩
  exact ⟨i1.trans hs.1,i2.trans hs.2⟩
theorem zxi {k j:Nat} (st:RS) (d:List UInt8) (h:j≠k):(st.done k d).T j=st.T j/\(st.done k d).U j=st.U j:=⟨zy0 h,zy0 h⟩
theorem yna {S j:Nat}:∀ {l:List CH} {st st':RS},(∀ x∈l,x.stream=j)->st.T j=st'.T j->st.U j=st'.U j->zqd S st l->zqd S st' l/\∃ x,(st.run l).lg=st.lg++x/\(st'.run l).lg=st'.lg++x
 | [],st,st',_,_,_,_=>⟨trivial,[],(zy7 _).symm,(zy7 _).symm⟩
 | x::l,st,st',h,hT,hU,hg=>by
  have hx:=h x zz5;have hT':st.T x.stream=st'.T x.stream:=by rw [hx];exact hT
  have hU':st.U x.stream=st'.U x.stream:=by rw [hx];exact hU
  have hs:(st.step x).T j=(st'.step x).T j/\(st.step x).U j=(st'.step x).U j/\∃ y,(st.step x).lg=st.lg++y/\(st'.step x).lg=st'.lg++y:=by
   unfold RS.step;split
   . rw [<- hT',<- hU']
     refine ⟨?_,?_,_,rfl,rfl⟩
     . show at1 _ _ _ _=at1 _ _ _ _
       unfold at1;rw [zy1 hx.symm,zy1 hx.symm]
     . show at1 _ _ _ _=at1 _ _ _ _
       unfold at1;rw [zy1 hx.symm,zy1 hx.symm]
   . rw [<- hU']
     refine ⟨hT,?_,[],(zy7 _).symm,(zy7 _).symm⟩;show at1 _ _ _ _=at1 _ _ _ _;unfold at1;rw [zy1 hx.symm,zy1 hx.symm]
  obtain ⟨s1,s2,y,s3,s4⟩:=hs;obtain ⟨i1,z,i2,i3⟩:=yna (st:=st.step x) (st':=st'.step x) (fun w hw=>h w (by simp [hw])) s1 s2 hg.2.2.2.2.2;refine ⟨⟨hg.1,hg.2.1.trans hT',hg.2.2.1.trans (by rw [hU']),by rw [<- hT'];exact hg.2.2.2.1,by rw [<- hU'];exact hg.2.2.2.2.1,i1⟩,y++z,?_,?_⟩
  . show ((st.step x).run l).lg=_
    rw [i2,s3,zy25]
  . show ((st'.step x).run l).lg=_
    rw [i3,s4,zy25]
theorem ynb:∀ {l:List CH} {st:RS},(∀ x∈l,x.last=false)->(st.run l).lg=st.lg
 | [],_,_=>rfl
 | x::l,st,h=>by
  show ((st.step x).run l).lg=_;rw [ynb fun y hy=>h y (by simp [hy])];unfold RS.step;rw [h x (by simp)];rfl
theorem zkb {k mid:Nat}:∀ (n p:Nat) (d:List UInt8),∀ x∈zfy k mid n p d,x.stream=k
 | 0,_,_,x,hx=>by cases hx
 | n+1,p,d,x,hx=>by
  rw [zfy] at hx;split at hx
  . rw [zy20] at hx;subst hx;rfl
  . rcases zy15.1 hx with rfl | hx
    . rfl
    . exact zkb n (p+1) (d.drop 4) x hx
theorem yct {k mid:Nat}:∀ (n p:Nat) (d:List UInt8) (i:Nat),i<(zfy k mid n p d).length->∀ x∈(zfy k mid n p d).take i,x.last=false
 | 0,_,_,i,hi,_,_=>absurd hi (Nat.not_lt_zero i)
 | n+1,p,d,i,hi,x,hx=>by
  rw [zfy] at hi hx;split at hi
  . rename_i c
    have:i=0:=by simp at hi;exact hi
    subst this;cases hx
  . rename_i c
    rw [zy0 c] at hx;cases i with
    | zero=>cases hx
    | succ i =>
     rw [zy102] at hx;rcases zy15.1 hx with rfl | hx
     . rfl
     . exact yct n (p+1) (d.drop 4) i (by simpa using hi) x hx
theorem zsa {j:Nat}:∀ {q:List zaf} {mids:List Int},(∀ m∈q,0<=m.sent/\m.sent<m.message.data.length/\0<=m.message.stream)->(∀ x∈zfq mids q,x.stream=j)->∀ m∈q,m.message.stream=j
 | [],_,_,_,m,hm=>by cases hm
 | y::q,mids,h,hx,m,hm=>by
  rw [zfq] at hx;rcases zy15.1 hm with rfl | hm
  . obtain ⟨h1,h2,h3⟩:=h m zz5
    obtain ⟨F,hF⟩:∃ F,m.message.data.length=F+1:=⟨m.message.data.length-1,by omega⟩
    cases hz:zfy m.message.stream.toNat (ywo mids m).toNat m.message.data.length m.parts.toNat (m.message.data.drop m.sent.toNat) with
    | nil=>rw [hF] at hz;exact absurd hz yre
    | cons z zs =>
     have hzm:z∈zfy m.message.stream.toNat (ywo mids m).toNat m.message.data.length m.parts.toNat (m.message.data.drop m.sent.toNat):=by rw [hz];simp
     have e1:=zkb _ _ _ z hzm;have e2:=hx z (zy122 _ hzm);omega
  . exact zsa (fun w hw=>h w (by simp [hw])) (fun x hx2=>hx x (zy108 _ hx2)) m hm
theorem zqw:∀ {q:List zaf} {a b:List Int},(∀ m∈q,m.message.stream=1)->a[1]?=b[1]?->zfq a q=zfq b q/\(zgu a q)[0]?=a[0]?
 | [],_,_,_,_=>⟨rfl,rfl⟩
 | m::q,a,b,h,e=>by
  have hm:=h m zz5;have e1:ywo a m=ywo b m:=by unfold ywo;rw [hm];show (if m.mid<0 then a[1]?.getD 0 else _)=if m.mid<0 then b[1]?.getD 0 else _;rw [e]
  have e2:(zqk a m)[1]?=(zqk b m)[1]?/\(zqk a m)[0]?=a[0]?:=by
   unfold zqk;split
   . rw [hm]
     show (setAt a 1 _)[1]?=(setAt b 1 _)[1]?/\(setAt a 1 _)[0]?=a[0]?;unfold setAt;rw [e];cases hb:b[1]? with
     | none=>exact ⟨by dsimp only;rw [e,hb],rfl⟩
     | some y =>
      dsimp only;rw [hb] at e;refine ⟨?_,zy40 zz3⟩;rw [zy23 (Gh.zfm e),zy23 (Gh.zfm hb)]
   . exact ⟨e,rfl⟩
  obtain ⟨i1,i2⟩:=zqw (q:=q) (a:=zqk a m) (b:=zqk b m) (fun x hx=>h x zz35) e2.1;rw [zfq,zfq,zgu,e1,i1,i2];exact ⟨rfl,e2.2⟩
def ykd:Config:=⟨2,4,60,1,4,12,65530⟩
def xdx (A B:List UInt8):zdn:=(doS (doS (zns ykd) ⟨1,0,sm 1 0 A⟩).1 ⟨1,0,sm 0 0 B⟩).1
theorem yzn {A B:List UInt8} (hA:40<=A.length/\A.length<=60) (hB:1<=B.length/\B.length<=4):(zet 400 (xdx A B)).1.receiver.log=[⟨0,0,true,B⟩,⟨1,0,true,A⟩]:=by
 obtain ⟨hev,hne⟩:=GM.xet (A.length-1) (B.length-1) zz0 zz0 zz0;rw [show A.length-1+1=A.length by omega] at hev hne;rw [show B.length-1+1=B.length by omega] at hev;unfold GM.zib at hev;have ok2:=yrp hev;have ok1:(GM.send (GM.new []) (GM.cut A.length)).ok=true:=by
  have:=ziv ok2;exact this
 have r0:LX [0,0,0,0] ykd 0 0 0 0 0 2 65530 100000 1 [] (zns ykd) (GM.new []):=xbc (c:=ykd) zz3 (.inr ⟨rfl,rfl⟩) rfl rfl rfl rfl (.inr rfl) ⟨by decide,by decide⟩;have hA1:1<=A.length/\A.length<=60:=⟨by omega,hA.2⟩
 have hB1:1<=B.length/\B.length<=60:=⟨hB.1,by omega⟩
 have c1:=xbg (S:=2) (k:=1) (f:=65530) zz3 (.inr rfl) hA1 ⟨by decide,by decide⟩ rfl;have b1:=xbg (S:=2) (k:=0) (f:=65530) zz3 (.inr rfl) hB1 ⟨by decide,by decide⟩ rfl;have r1:LX [0,1,0,0] ykd 1 0 0 1 0 2 65530 100000 1 (zfy 1 0 A.length 0 A) (doS (zns ykd) ⟨1,0,sm 1 0 A⟩).1 (GM.send (GM.new []) (GM.cut A.length)):=by
  refine yja r0 (m:=sm 1 0 A) ?_ zz3 c1 rfl (zy104 _) ?_ ?_ rfl rfl ⟨show (0:Int)<=0 by decide,.inl ⟨rfl,rfl⟩⟩ ?_ ok1
  . exact xbq ⟨by decide,show (1:Int)<2 by decide⟩ ⟨by decide,by decide⟩ hA1 (show ((0:Nat):Int)<12 by decide)
  . show zfq [0,0,0,0] ([]++[⟨0,-1,0,0,0,sm 1 0 A⟩])=_
    rw [zy74,zmo.1];rfl
  . show zgu [0,0,0,0] ([]++[⟨0,-1,0,0,0,sm 1 0 A⟩])=_
    rw [zy74,zmo.2];rfl
  . show []++GM.cut A.length=List.map _ (zfy 1 0 A.length 0 A)
    rw [zy74,zsr];rfl
 generalize hg1:GM.send (GM.new []) (GM.cut A.length)=g1 at r1 hev ok1 ok2 hne;generalize hl1:(doS (zns ykd) ⟨1,0,sm 1 0 A⟩).1=l1 at r1;have halen:=r1.lr.alen;have htd:=r1.lr.sr.todo;have hin:g1.a+g1.out.length<(zfy 1 0 A.length 0 A).length:=by
  apply Classical.byContradiction;intro hn;rw [List.drop_eq_nil_iff.2 (by omega)] at htd;rw [htd] at hne;cases hne
 have hAA:(zfy 1 0 A.length 0 A).take (g1.a+g1.out.length)++(zfy 1 0 A.length 0 A).drop (g1.a+g1.out.length)=zfy 1 0 A.length 0 A:=zy24 _ _;have hll:=zok (k:=1) (mid:=0) A.length 0 A;have hlb:=zok (k:=0) (mid:=0) B.length 0 B;have hX:((zfy 1 0 A.length 0 A).take (g1.a+g1.out.length)).length=g1.a+g1.out.length:=by rw [zy46];omega
 have hXs:∀ x∈(zfy 1 0 A.length 0 A).take (g1.a+g1.out.length),x.stream≠0:=fun x hx=>by rw [zkb _ _ _ x (zy62 hx)];decide
 have hYs:∀ x∈(zfy 1 0 A.length 0 A).drop (g1.a+g1.out.length),x.stream=1:=fun x hx=>zkb _ _ _ x (zy73 hx)
 have hopen:=ynb (st:=RS.new 0) (yct A.length 0 A _ hin);obtain ⟨o1,o2⟩:=yfm (st:=RS.new 0) hXs;have hgA:zqd 2 (RS.new 0) (zfy 1 0 A.length 0 A):=c1.zqd;have hrA:(RS.new 0).run (zfy 1 0 A.length 0 A)=(RS.new 0).done 1 A:=ybg _ _ _ _ (zy18 _) hA1.1;have hrest1:=r1.lr.sr.rest;have hqc:=r1.lr.sr.qc;have hsi:=r1.lr.si;have hcf:=r1.fx.cfg;generalize hXX:(zfy 1 0 A.length 0 A).take (g1.a+g1.out.length)=X at hAA hX hXs hopen o1 o2;generalize hYY:(zfy 1 0 A.length 0 A).drop (g1.a+g1.out.length)=Y at hAA hYs htd hrest1;have hgX:zqd 2 (RS.new 0) X:=by rw [<- hXX];exact zum _ hgA
 have hgY:zqd 2 ((RS.new 0).run X) Y:=by
  have:∀ {a b:List CH} {st:RS},zqd 2 st (a++b)->zqd 2 (st.run a) b:=by
   intro a
   induction a with
   | nil=>intro b st h;exact h
   | cons x a ih=>intro b st h;exact ih h.2.2.2.2.2
  exact this (by rw [hAA];exact hgA)
 have hB2:zqd 2 ((RS.new 0).run X) (zfy 0 0 B.length 0 B):=yab zz3 hB1 o1 o2 zz3;have hrB:((RS.new 0).run X).run (zfy 0 0 B.length 0 B)=((RS.new 0).run X).done 0 B:=ybg _ _ _ _ (zy18 _) hB1.1;obtain ⟨k1,w,k2,k3⟩:=yna (st':=((RS.new 0).run X).done 0 B) hYs (zxi _ _ zz3).1.symm (zxi _ _ zz3).2.symm hgY;have hw:w=[⟨1,0,true,A⟩]:=by
  have h1:((RS.new 0).run (X++Y)).lg=[⟨1,0,true,A⟩]:=by rw [hAA,hrA];rfl
  rw [zvl,k2,hopen] at h1;exact h1
 have hmem:∀ x∈X++zfy 0 0 B.length 0 B++Y,x∈zfy 1 0 A.length 0 A\/x∈zfy 0 0 B.length 0 B:=fun x hx=>by
  rw [<- hAA];rcases zy14.1 hx with hx | hx
  . rcases zy14.1 hx with hx | hx
    . exact .inl (zy122 _ hx)
    . exact .inr hx
  . exact .inl (zy108 _ hx)
 have hlY:X.length+Y.length<=60:=by rw [<- zy5,hAA];omega
 have c2:yqn 0 2 65530 (X++zfy 0 0 B.length 0 B++Y):=by
  refine ⟨by rw [zy5,zy5];omega,fun x hx=>(hmem x hx).elim (c1.zha x) (b1.zha x),by decide,by decide,?_,.inl rfl,.inr rfl,zy104 _⟩;refine zsv (zsv hgX hB2) ?_;rw [zvl,hrB];exact k1
 have hst1:∀ m∈l1.sender.queue,m.message.stream=1:=by
  have hq4:zkk 4 l1.sender.queue=(l1.sender.queue.filter fun m=>decide (m.message.stream=0))++(l1.sender.queue.filter fun m=>decide (m.message.stream=1)):=zy1 rfl;have:=zsa (j:=1) (q:=zkk l1.sender.config.turns l1.sender.queue) (mids:=l1.sender.mids) (fun m hm=>by
   have q:=hsi.queue m (ymk hm);have q1:=q.sent;have q2:=q.parts;have q3:=q.left;have q4:=q.st0;rw [hqc.part] at q1;omega) (fun x hx=>hYs x (by rw [<- hrest1];exact hx))
  intro m hm;refine this m ?_;rw [hcf];show m∈zkk 4 _;rw [hq4];have q:=hsi.queue m hm;have q1:=q.st0;have q2:=q.st1;rw [hcf] at q2;have q2:m.message.stream<2:=q2;rcases (show m.message.stream=0\/m.message.stream=1 by omega) with e | e
  . exact zy122 _ (zy83.2 ⟨hm,zy16 e⟩)
  . exact zy108 _ (zy83.2 ⟨hm,zy16 e⟩)
 have hf0:(l1.sender.queue.filter fun m=>decide (m.message.stream=0))=[]:=zy103.2 fun x hx=>by simp [hst1 x hx]
 have hf1:(l1.sender.queue.filter fun m=>decide (m.message.stream=1))=l1.sender.queue:=zy76.2 fun x hx=>by simp [hst1 x hx]
 have hoq:zkk 4 l1.sender.queue=l1.sender.queue:=by
  unfold zkk;rw [zy1 rfl,hf0,hf1];rfl
 have hends1:=hqc.ends;rw [hcf] at hends1;have hends1:zgu l1.sender.mids (zkk 4 l1.sender.queue)=[0,1,0,0]:=hends1;rw [hoq] at hends1;have hm0:l1.sender.mids[0]?=some 0:=by
  have:=(zqw (q:=l1.sender.queue) (a:=l1.sender.mids) (b:=l1.sender.mids) hst1 rfl).2;rw [hends1] at this;exact this.symm
 have hwf:=ynt hsi hqc;rw [hrest1] at hwf;have hYe:ends Y<=1:=by
  have:=zoj (k:=1) (mid:=0) A.length 0 A (zy18 _) hA1.1;rw [<- hAA,zzq] at this;omega
 have r2:LX (zgu l1.sender.mids (zkk l1.sender.config.turns (zid l1.sender (sm 0 0 B)).queue)) ykd 2 0 0 2 0 2 65530 100000 1 (X++zfy 0 0 B.length 0 B++Y) (doS l1 ⟨1,0,sm 0 0 B⟩).1 (GM.zfi {g1 with todo:=GM.cut B.length++g1.todo}):=by
  refine yja r1 (m:=sm 0 0 B) ?_ zz3 c2 ?_ ?_ ?_ rfl rfl rfl ⟨show (0:Int)<=0 by decide,.inl ⟨rfl,rfl⟩⟩ ?_ ok2
  . exact xbq ⟨by decide,by rw [hcf];decide⟩ ⟨by decide,by decide⟩ hB1 (by rw [hcf];show (l1.sender.queue.length:Int)<12;omega)
  . rw [zy25,<- hX,zy138,hX,hXX]
  . rw [zy5,zy5];omega
  . unfold rest
    show zfq l1.sender.mids (zkk l1.sender.config.turns (l1.sender.queue++[⟨l1.sender.fates.length,-1,l1.sender.clock,0,0,sm 0 0 B⟩]))=_;have hqq:zkk l1.sender.config.turns (l1.sender.queue++[⟨l1.sender.fates.length,-1,l1.sender.clock,0,0,sm 0 0 B⟩])=[⟨l1.sender.fates.length,-1,l1.sender.clock,0,0,sm 0 0 B⟩]++l1.sender.queue:=by
     rw [hcf];unfold zkk;rw [zy1 (show ykd.turns=4 from rfl),zy44,zy44,hf0,hf1];show []++[_]++(l1.sender.queue++[])=_;rw [zy7];rfl
    rw [hqq,zvg,zmo.1,zmo.2];show zfy 0 (l1.sender.mids[0]?.getD 0).toNat B.length 0 B++zfq (yir l1.sender.mids 0) l1.sender.queue=_;rw [hm0,(zqw (q:=l1.sender.queue) (a:=yir l1.sender.mids 0) (b:=l1.sender.mids) hst1 (by unfold yir setAt;rw [hm0];exact zy40 (by decide))).1];have hr1:zfq l1.sender.mids l1.sender.queue=Y:=by
     rw [<- hrest1];unfold rest;rw [hcf];show _=zfq _ (zkk 4 _);rw [hoq]
    rw [hr1,zy25,<- hX,zy101];rfl
  . rw [zy25,<- hX,zy101,zy33,zsr,htd];rfl
 obtain ⟨k5,r3⟩:=zvo 400 r2 rfl zz3 hev;obtain ⟨f1,f2,f3,f4,f5⟩:=yky hev;have:=(r3.log f2 f3 f5).1;unfold xdx;rw [hl1,this];show ((RS.new 0).run (X++zfy 0 0 B.length 0 B++Y)).lg=_;rw [zvl,zvl,hrB,k3,hw];show ((RS.new 0).run X).lg++[⟨0,((((RS.new 0).run X).T 0:Nat):Int),true,(((RS.new 0).run X).U 0).flatten++B⟩]++_=_;rw [hopen,o1,o2];rfl
end Tp
namespace Tp
open Ser Snd Ln
def xio (s:ByteArray):HV:=.p (.v (.string s))
def bs (s:ByteArray):List UInt8:=s.data.toList
def stm (k life:Int) (s:ByteArray):Step:=⟨1,0,sm k life (bs s)⟩
theorem yjz (s:ByteArray):(bs s).length=s.size:=by cases s;exact zy143
theorem xck (s:ByteArray):(⟨(bs s).toArray⟩:ByteArray)=s:=by unfold bs;cases s;simp
theorem zvq (st tu:Int):zao Tryz.prog 22 [i64 st,i64 tu] zae (⟨st,4,60,1,tu,12,65530⟩:Config).hv zae:=by
 refine zap mixed Tryz.func22 zz3 ?_;(conv=>whnf)
 rfl
theorem zma (k life:Int) (s:ByteArray) (hs:s.size<=60):zao Tryz.prog 23 [i64 k,xio s,i64 life] zae (stm k life s).hv zae:=by
 refine zap mixed Tryz.func23 zz3 ?_;(conv=>whnf);refine zaa (c:=s.size<=maxLen) (by unfold maxLen;omega) (zw ?_)
 rfl
def hi:List UInt8:=[104,105]
theorem yny:busy (ytj 65530 hi 1)=true:=by
 have h:=zvj (D:=hi) ⟨by decide,by decide⟩ (first:=65530) ⟨by decide,by decide⟩ 1 zz3 (by decide +kernel);rw [h.busy]
 decide +kernel
theorem ytk {c:Config} (h:zni c=0) (l:List Step) (hl:l.length<=200):LI 200 24000 (zox (zns c) l).1/\SL (zox (zns c) l).1.sender:=by
 have:=yms l (yip h) zz0 zz0;exact ⟨⟨this.snd.mono zz0 zz0,this.rcv.more zz0,by omega,this.way,this.bytes⟩,yun l (yip h) (xeb h) zz0 zz0⟩
theorem ymp {c:Config} {l:List Step} (h:zni c=0) (hl:l.length<=200):zmz c l=((zox (zns c) l).1,(zox (zns c) l).2,0):=by rw [zmz,zy0 (fun k=>k h),zy0 (by omega)]
theorem yqy {X Y:zdn} {n:Int} {az:List Answer} (p0:zao Tryz.prog 21 [(ywx 65530).hv,xhj [⟨1,0,sm 0 0 hi⟩]] zae (.tup [X.hv,.p (.sl 2 (az.map Answer.row)),i64 0]) zae) (p1:zao Tryz.prog 24 [X.hv] zae (.tup [Y.hv,i64 n]) zae) (h1:0<n) (h2:Y.receiver.log.length=1) :
 zao Tryz.prog 20 [] zae (zbl true) zae:=by
 have q0:=zvq 1 1;have q1:=zma 0 0 ⟨#[104,105]⟩ zz3;refine zap mixed Tryz.func20 zz3 ?_;(conv=>whnf)
 (refine cP ?_;refine dL q0 ?_)
 (refine cP ?_;refine dL q1 ?_)
 (refine cP ?_;refine dL p0 ?_)
 (refine cP ?_;refine dL p1 ?_)
 rw [show decide (n>0)=true from zy16 h1];(conv=>whnf);rw [show (((Y.receiver.log.map zcq.row).length:Int)==1)=true by rw [zy2,h2];rfl]
 try rfl
theorem ypn:zao Tryz.prog 20 [] zae (zbl true) zae:=by
 have hw:zni (ywx 65530)=0:=by decide
 have p0:=ygm (ywx 65530) [⟨1,0,sm 0 0 hi⟩] zz3;rw [ymp hw (by decide)] at p0;obtain ⟨hli,hsl⟩:=ytk hw [⟨1,0,sm 0 0 hi⟩] zz3;have p1:=zdm (zox (zns (ywx 65530)) [⟨1,0,sm 0 0 hi⟩]).1 hli hsl zz0 zz0;have hl:=yfi (D:=hi) ⟨by decide,by decide⟩ (first:=65530) ⟨by decide,by decide⟩ (t:=1) ⟨by decide,by decide⟩ (by decide +kernel);have hb:=yny;have e:(zox (zns (ywx 65530)) [⟨1,0,sm 0 0 hi⟩]).1=ytj 65530 hi 1:=rfl;rw [e] at p0 p1;refine yqy p0 p1 ?_ ?_
 . rw [zkn (n:=399) hb]
   show (0:Int)<(((zet 399 _).2+1:Nat):Int);omega
 . rw [hl];rfl
theorem xgc (s:ByteArray):((⟨(bs s).toArray⟩:ByteArray).toList==s.toList)=true:=by rw [xck];exact beq_self_eq_true _
theorem xeu (a b:ByteArray):zao Tryz.prog 3 [xio a,xio b] zae (zbl true) zae:=by
 refine zap mixed Tryz.func3 zz3 ?_;(conv=>whnf)
 (refine cP ?_;refine dL ypn ?_)
 by_cases ha:40<=a.size/\a.size<=60
 case neg =>
  by_cases h1:a.size<40
  . rw [show decide ((a.size:Int)<40)=true from zy16 (by omega)]
    conv=>whnf
    try rfl
  . rw [show decide ((a.size:Int)<40)=false from zy21 (by omega)]
    (conv=>whnf);rw [show decide ((a.size:Int)>60)=true from zy16 (by omega)];(conv=>whnf)
    try rfl
 rw [show decide ((a.size:Int)<40)=false from zy21 (by omega)];(conv=>whnf);rw [show decide ((a.size:Int)>60)=false from zy21 (by omega)];(conv=>whnf);by_cases hb:1<=b.size/\b.size<=4
 case neg =>
  by_cases h1:b.size<1
  . rw [show decide ((b.size:Int)<1)=true from zy16 (by omega)]
    conv=>whnf
    try rfl
  . rw [show decide ((b.size:Int)<1)=false from zy21 (by omega)]
    (conv=>whnf);rw [show decide ((b.size:Int)>4)=true from zy16 (by omega)];(conv=>whnf)
    try rfl
 rw [show decide ((b.size:Int)<1)=false from zy21 (by omega)];(conv=>whnf);rw [show decide ((b.size:Int)>4)=false from zy21 (by omega)];(conv=>whnf);have hw:zni ykd=0:=by decide
 have q0:=zvq 2 4;have q1:=zma 1 0 a ha.2;have q2:=zma 0 0 b zz0;have p0:=ygm ykd [stm 1 0 a,stm 0 0 b] (fun x hx=>by
  rcases zy15.1 hx with rfl | hx
  . show (bs a).length<_;rw [yjz];omega
  . rw [zy20] at hx;subst hx
    show (bs b).length<_;rw [yjz];omega)
 rw [ymp hw (by show 2<=200;decide)] at p0;obtain ⟨hli,hsl⟩:=ytk hw [stm 1 0 a,stm 0 0 b] (by show 2<=200;decide);have p1:=zdm (zox (zns ykd) [stm 1 0 a,stm 0 0 b]).1 hli hsl zz0 zz0;have hl:=yzn (A:=bs a) (B:=bs b) (by rw [yjz];exact ha) (by rw [yjz];exact hb);rw [show xdx (bs a) (bs b)=(zox (zns ykd) [stm 1 0 a,stm 0 0 b]).1 from rfl] at hl;generalize zox (zns ykd) [stm 1 0 a,stm 0 0 b]=X at p0 p1 hl;generalize zet 400 X.1=T at p1 hl;obtain ⟨X,az⟩:=X;obtain ⟨T,n⟩:=T;dsimp only at p0 p1 hl
 (refine cP ?_;refine dL q0 ?_)
 (refine cP ?_;refine dL q1 ?_)
 (refine cP ?_;refine dL q2 ?_)
 (refine cP ?_;refine dL p0 ?_)
 (refine cP ?_;refine dL p1 ?_)
 rw [show (((T.receiver.log.map zcq.row).length:Int)==2)=true by rw [zy2,hl];rfl];(conv=>whnf);refine zby (r:=(⟨0,0,true,bs b⟩:zcq).row) zz3 (by rw [hl];rfl) (zw ?_);refine zrq (bs:=bs b) rfl (zw ?_);rw [xgc];(conv=>whnf);refine zby (r:=(⟨1,0,true,bs a⟩:zcq).row) zz3 (by rw [hl];rfl) (zw ?_);refine zrq (bs:=bs a) rfl (zw ?_);rw [xgc]
 try rfl
end Tp
end Go.HL
