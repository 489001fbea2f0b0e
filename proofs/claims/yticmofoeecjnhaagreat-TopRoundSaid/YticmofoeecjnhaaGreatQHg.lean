/- Walks, contracts and laws of the law's functions: part 7. No condition. -/
import Derived.Test.YticmofoeecjnhaaGreatQHf
open Go.Proofs
set_option maxHeartbeats 32000000
set_option maxRecDepth 100000
set_option linter.unusedSimpArgs false
namespace Go.HL
namespace Tp
namespace GM
theorem yze:∀ (a t:Nat),a<60->t<12->zed (zbs (a+1) (t+1))=true
 | 0,b,h,hb=>zy7.1 ro0 b (zy15.2 hb)
 | 1,b,h,hb=>zy7.1 ro1 b (zy15.2 hb)
 | 2,b,h,hb=>zy7.1 ro2 b (zy15.2 hb)
 | 3,b,h,hb=>zy7.1 ro3 b (zy15.2 hb)
 | 4,b,h,hb=>zy7.1 ro4 b (zy15.2 hb)
 | 5,b,h,hb=>zy7.1 ro5 b (zy15.2 hb)
 | 6,b,h,hb=>zy7.1 ro6 b (zy15.2 hb)
 | 7,b,h,hb=>zy7.1 ro7 b (zy15.2 hb)
 | 8,b,h,hb=>zy7.1 ro8 b (zy15.2 hb)
 | 9,b,h,hb=>zy7.1 ro9 b (zy15.2 hb)
 | 10,b,h,hb=>zy7.1 xiv b (zy15.2 hb)
 | 11,b,h,hb=>zy7.1 xiw b (zy15.2 hb)
 | 12,b,h,hb=>zy7.1 xix b (zy15.2 hb)
 | 13,b,h,hb=>zy7.1 xiy b (zy15.2 hb)
 | 14,b,h,hb=>zy7.1 xiz b (zy15.2 hb)
 | 15,b,h,hb=>zy7.1 xja b (zy15.2 hb)
 | 16,b,h,hb=>zy7.1 xjb b (zy15.2 hb)
 | 17,b,h,hb=>zy7.1 xjc b (zy15.2 hb)
 | 18,b,h,hb=>zy7.1 xjd b (zy15.2 hb)
 | 19,b,h,hb=>zy7.1 xje b (zy15.2 hb)
 | 20,b,h,hb=>zy7.1 xjf b (zy15.2 hb)
 | 21,b,h,hb=>zy7.1 xjg b (zy15.2 hb)
 | 22,b,h,hb=>zy7.1 xjh b (zy15.2 hb)
 | 23,b,h,hb=>zy7.1 xji b (zy15.2 hb)
 | 24,b,h,hb=>zy7.1 xjj b (zy15.2 hb)
 | 25,b,h,hb=>zy7.1 xjk b (zy15.2 hb)
 | 26,b,h,hb=>zy7.1 xjl b (zy15.2 hb)
 | 27,b,h,hb=>zy7.1 xjm b (zy15.2 hb)
 | 28,b,h,hb=>zy7.1 xjn b (zy15.2 hb)
 | 29,b,h,hb=>zy7.1 xjo b (zy15.2 hb)
 | 30,b,h,hb=>zy7.1 xjp b (zy15.2 hb)
 | 31,b,h,hb=>zy7.1 xjq b (zy15.2 hb)
 | 32,b,h,hb=>zy7.1 xjr b (zy15.2 hb)
 | 33,b,h,hb=>zy7.1 xjs b (zy15.2 hb)
 | 34,b,h,hb=>zy7.1 xjt b (zy15.2 hb)
 | 35,b,h,hb=>zy7.1 xju b (zy15.2 hb)
 | 36,b,h,hb=>zy7.1 xjv b (zy15.2 hb)
 | 37,b,h,hb=>zy7.1 xjw b (zy15.2 hb)
 | 38,b,h,hb=>zy7.1 xjx b (zy15.2 hb)
 | 39,b,h,hb=>zy7.1 xjy b (zy15.2 hb)
 | 40,b,h,hb=>zy7.1 xjz b (zy15.2 hb)
 | 41,b,h,hb=>zy7.1 xka b (zy15.2 hb)
 | 42,b,h,hb=>zy7.1 xkb b (zy15.2 hb)
 | 43,b,h,hb=>zy7.1 xkc b (zy15.2 hb)
 | 44,b,h,hb=>zy7.1 xkd b (zy15.2 hb)
 | 45,b,h,hb=>zy7.1 xke b (zy15.2 hb)
 | 46,b,h,hb=>zy7.1 xkf b (zy15.2 hb)
 | 47,b,h,hb=>zy7.1 xkg b (zy15.2 hb)
 | 48,b,h,hb=>zy7.1 xkh b (zy15.2 hb)
 | 49,b,h,hb=>zy7.1 xki b (zy15.2 hb)
 | 50,b,h,hb=>zy7.1 xkj b (zy15.2 hb)
 | 51,b,h,hb=>zy7.1 xkk b (zy15.2 hb)
 | 52,b,h,hb=>zy7.1 xkl b (zy15.2 hb)
 | 53,b,h,hb=>zy7.1 xkm b (zy15.2 hb)
 | 54,b,h,hb=>zy7.1 xkn b (zy15.2 hb)
 | 55,b,h,hb=>zy7.1 xko b (zy15.2 hb)
 | 56,b,h,hb=>zy7.1 xkp b (zy15.2 hb)
 | 57,b,h,hb=>zy7.1 xkq b (zy15.2 hb)
 | 58,b,h,hb=>zy7.1 xkr b (zy15.2 hb)
 | 59,b,h,hb=>zy7.1 xks b (zy15.2 hb)
 | n+60,b,h,hb=>absurd h (by omega)
end GM
end Tp
namespace Tp
namespace GM
end GM
end Tp
namespace Tp
namespace GM
end GM
end Tp
namespace Tp
open Ser Snd Ln
section
variable {E:List Int} {c:Config} {n d N h S:Nat} {k f T:Int} {P:Nat} {Cs:List CH} {l:zdq} {g:GM}
theorem LX.log (r:LX E c n d k N h S f T P Cs l g) (h1:g.todo=[]) (h2:g.out=[]) (h3:g.R=g.a):l.receiver.log=((RS.new h).run (Cs.drop h)).lg/\l.sender.queue=[]/\l.sender.out=[]:=by
 have htd:=r.lr.sr.todo;rw [h1] at htd;have hz:=zy123.1 htd.symm;have hle:Cs.length<=g.a+g.out.length:=List.drop_eq_nil_iff.1 hz;have hal:=r.lr.alen;rw [h2,zy14] at hle hal;have hR:g.R=Cs.length:=by omega
 refine ⟨?_,yam r.lr.si r.lr.sr.qc (by rw [r.lr.sr.rest,hz]),zy68.1 (by rw [r.lr.sr.len,h2];rfl)⟩;have hl:=r.lr.cs.hl;rcases r.lr.rr.ri with ⟨e1,e2,-⟩ | ⟨-,e⟩
 . omega
 . have:=e.log
   rw [this,hR,zy37 (by rw [zy34];omega)]
theorem ywx (h:GM.zed g=true):g.ok=true/\g.todo=[]/\g.out=[]/\g.way=[]/\g.R=g.a:=by
 have h1:=GM.zdv h;have h2:=GM.zhp h1;unfold GM.busy at h2;rw [Bool.not_not] at h2;exact ⟨GM.zdv h1,zy121.1 (GM.zdv (GM.zdv h2)),zy121.1 (GM.zhp (GM.zdv h2)),zy121.1 (GM.zhp h2),zy4 (GM.zhp h)⟩
theorem xct {m:Nat} (hf:GM.zed (GM.settle h m g)=true):g.ok=true:=zqs m (GM.zdv (GM.zdv hf))
theorem yzj {t:List Nat} (h:(GM.send g t).ok=true):g.ok=true:=by
 have:=zki h;exact this
end
theorem ykr {S:Nat}:∀ {a b:List CH} {st:RS},ybn S st a->ybn S (st.run a) b->ybn S st (a++b)
 | [],_,_,_,h=>h
 | _::_,_,_,h,k=>⟨h.1,h.2.1,h.2.2.1,h.2.2.2.1,h.2.2.2.2.1,ykr h.2.2.2.2.2 k⟩
theorem yxc {S k mid:Nat} (hk:k<S) {d:List UInt8} {st:RS} (hd:1<=d.length/\d.length<=60) (h1:st.T k=mid) (h2:st.U k=[]) (h3:mid<1000):ybn S st (zmz k mid d.length 0 d):=by
 have:=yks hk d.length 0 d st [] (zy22 _) hd.1 h1 (by rw [h2];rfl) h3 (by rw [h2];show 0+d.length<=60;omega) trivial
 rwa [zy8] at this
def ygo (first:Int):Config:=⟨1,4,60,1,1,12,first⟩
def csR (D:List UInt8):Nat->List CH
 | 0=>[]
 | t+1=>csR D t++zmz 0 t D.length 0 D
def ydv (first:Int) (D:List UInt8):Nat->zdq
 | 0=>zpm (ygo first)
 | t+1=>(doS (ydv first D t) ⟨1,0,sm 0 0 D⟩).1
theorem yju {D:List UInt8} (hD:1<=D.length/\D.length<=60) {first:Int} (hf:0<=first/\first<65536):∀ t,t<=12->yvy 0 1 first (csR D t)/\ends (csR D t)=t/\(csR D t).length<=60*t/\((RS.new 0).run (csR D t)).T 0=t/\((RS.new 0).run (csR D t)).U 0=[]/\((RS.new 0).run (csR D t)).lg=(List.range t).map fun j=>⟨0,(j:Int),true,D⟩
 | 0,_=>⟨⟨show 0<=1000 by decide,fun x hx=>(by cases hx),hf.1,hf.2,trivial,.inl rfl,.inl rfl,zy22 _⟩,rfl,zy22 _,rfl,rfl,rfl⟩
 | t+1,ht=>by
  obtain ⟨h1,h2,h3,h4,h5,h6⟩:=yju hD hf t (by omega);have hl:=yjw (k:=0) (mid:=t) D.length 0 D;have zeb:(RS.new 0).run (csR D (t+1))=((RS.new 0).run (csR D t)).done 0 D:=by
   show (RS.new 0).run (csR D t++_)=_;rw [xek,yuj _ _ _ _ (zy22 _) hD.1]
  refine ⟨⟨?_,fun x hx=>?_,hf.1,hf.2,?_,.inl rfl,.inl rfl,zy104 _⟩,?_,?_,?_,?_,?_⟩
  . show (csR D t++_).length<=1000
    rw [zy6];omega
  . rcases zy17.1 (show x∈csR D t++_ from hx) with hx | hx
    . exact h1.zed x hx
    . exact ycd (by decide) (by omega) _ _ _ (by omega) hD.1 x hx
  . exact ykr h1.ybn (yxc (by decide) hD h4 h5 (by omega))
  . show ends (csR D t++_)=_
    rw [yka,h2,ztq _ _ _ (zy22 _) hD.1]
  . show (csR D t++_).length<=_
    rw [zy6];omega
  . rw [zeb]
    show at1 ((RS.new 0).run (csR D t)).T 0 (((RS.new 0).run (csR D t)).T 0+1) 0=t+1;rw [zsh,h4]
  . rw [zeb]
    show at1 ((RS.new 0).run (csR D t)).U 0 [] 0=[];exact zsh _ _ _
  . rw [zeb]
    show ((RS.new 0).run (csR D t)).lg++[⟨0,((((RS.new 0).run (csR D t)).T 0:Nat):Int),true,(((RS.new 0).run (csR D t)).U 0).flatten++D⟩]=_;rw [h4,h5,h6,List.range_succ,zy36];rfl
theorem zux {D:List UInt8} (hD:1<=D.length/\D.length<=60) {first:Int} (hf:0<=first/\first<65536):∀ t,t<=12->(GM.ymq D.length t).ok=true->LX [(t:Int),0] (ygo first) t 0 0 t 0 1 first 100000 1 (csR D t) (ydv first D t) (GM.ymq D.length t)
 | 0,_,_=>xgl (c:=ygo first) (by
  unfold zmw ygo;dsimp only;rw [zy0 (by omega),zy0 (by decide)]) (.inl rfl) rfl rfl rfl rfl (.inl rfl) ⟨by decide,by decide⟩
 | t+1,ht,hok=>by
  have ih:=zux hD hf t (by omega) (yzj hok);have:=yzi ih (st:=0) (life:=0) (D:=D) (mid:=t) rfl (show (0:Int)<1 by decide) ⟨by decide,by decide,.inl ⟨rfl,rfl⟩⟩ hD (by rw [(yju hD hf t (by omega)).2.1];show ((t:Nat):Int)<12;omega) zz0 rfl (yju hD hf (t+1) ht).1 hok;have e:yyb [(t:Int),0] 0=[((t+1:Nat):Int),0]:=by
   show [W ((t:Int)+1),0]=_;rw [zbh (by omega) (by omega)];rfl
  rw [e] at this;exact this
theorem zrs {D:List UInt8} (hD:1<=D.length/\D.length<=60) {first:Int} (hf:0<=first/\first<65536) {t:Nat} (ht:1<=t/\t<=12) (hev:GM.zed (GM.zbs D.length t)=true):(zet 400 (ydv first D t)).1.receiver.log=(List.range t).map fun j=>⟨0,(j:Int),true,D⟩:=by
 unfold GM.zbs at hev;have r:=zux hD hf t ht.2 (xct hev);obtain ⟨k2,r3⟩:=yfj 400 r rfl zz5 hev;obtain ⟨f1,f2,f3,f4,f5⟩:=ywx hev;rw [(r3.log f2 f3 f5).1];exact (yju hD hf t ht.2).2.2.2.2.2
theorem yuh {D:List UInt8} (hD:1<=D.length/\D.length<=60) {first:Int} (hf:0<=first/\first<65536) {t:Nat} (ht:1<=t/\t<=12):(zet 400 (ydv first D t)).1.receiver.log=(List.range t).map fun j=>⟨0,(j:Int),true,D⟩:=by
 refine zrs hD hf ht ?_;have hev:=GM.yze (D.length-1) (t-1) zz0 zz0
 rwa [show D.length-1+1=D.length by omega,show t-1+1=t by omega] at hev
end Tp
namespace Tp
open Ser Snd Ln
def xgh (s:ByteArray):HV:=.p (.v (.string s))
def bs (s:ByteArray):List UInt8:=s.data.toList
def stm (k life:Int) (s:ByteArray):Step:=⟨1,0,sm k life (bs s)⟩
theorem xaf (s:ByteArray):(bs s).length=s.size:=by cases s;exact zy140
theorem xby (s:ByteArray):(⟨(bs s).toArray⟩:ByteArray)=s:=by unfold bs;cases s;simp
theorem zvd (st tu:Int):zao Tryz.prog 22 [i64 st,i64 tu] zae (⟨st,4,60,1,tu,12,65530⟩:Config).hv zae:=by
 refine zap mixed Tryz.func22 zz5 ?_;(conv=>whnf)
 rfl
theorem zpd (k life:Int) (s:ByteArray) (hs:s.size<=60):zao Tryz.prog 23 [i64 k,xgh s,i64 life] zae (stm k life s).hv zae:=by
 refine zap mixed Tryz.func23 zz5 ?_;(conv=>whnf);refine zaa (c:=s.size<=maxLen) (by unfold maxLen;omega) (zw ?_)
 rfl
theorem ypn (s:ByteArray):zao Tryz.prog 25 [xgh s] zae (zbk (decide (1<=s.size/\s.size<=60))) zae:=by
 refine zap mixed Tryz.func25 zz5 ?_;(conv=>whnf);by_cases h1:1<=s.size
 . refine zai (zy16 (by show (0:Int)<(s.size:Int);omega)) (zw ?_)
   by_cases h2:s.size<=60
   . rw [show decide (1<=s.size/\s.size<=60)=true from zy16 ⟨h1,h2⟩,show decide ((s.size:Int)<=60)=true from zy16 (by omega)]
   . rw [show decide (1<=s.size/\s.size<=60)=false from zy19 (fun h=>h2 h.2),show decide ((s.size:Int)<=60)=false from zy19 (by omega)]
 . refine zag (zy19 (by show ¬ (0:Int)<(s.size:Int);omega)) (zw ?_)
   rw [show decide (1<=s.size/\s.size<=60)=false from zy19 (fun h=>h1 h.1)]
def hi:List UInt8:=[104,105]
theorem ynk:busy (ydv 65530 hi 1)=true:=by
 have h:=zux (D:=hi) ⟨by decide,by decide⟩ (first:=65530) ⟨by decide,by decide⟩ 1 zz5 (by decide +kernel);rw [h.busy]
 decide +kernel
theorem yst {c:Config} (h:zmw c=0) (l:List Step) (hl:l.length<=200):LI 200 24000 (znd (zpm c) l).1/\SL (znd (zpm c) l).1.sender:=by
 have:=ymg l (yig h) zz0 zz0;exact ⟨⟨this.snd.mono zz0 zz0,this.rcv.more zz0,by omega,this.way,this.bytes⟩,ytw l (yig h) (xdq h) zz0 zz0⟩
theorem yme {c:Config} {l:List Step} (h:zmw c=0) (hl:l.length<=200):zmu c l=((znd (zpm c) l).1,(znd (zpm c) l).2,0):=by rw [zmu,zy0 (fun k=>k h),zy0 (by omega)]
theorem yqk {X Y:zdq} {n:Int} {az:List Answer} (p0:zao Tryz.prog 21 [(ygo 65530).hv,xhb [⟨1,0,sm 0 0 hi⟩]] zae (.tup [X.hv,.p (.sl 2 (az.map Answer.row)),i64 0]) zae) (p1:zao Tryz.prog 24 [X.hv] zae (.tup [Y.hv,i64 n]) zae) (h1:0<n) (h2:Y.receiver.log.length=1) :
 zao Tryz.prog 20 [] zae (zbk true) zae:=by
 have q0:=zvd 1 1;have q1:=zpd 0 0 ⟨#[104,105]⟩ zz5;refine zap mixed Tryz.func20 zz5 ?_;(conv=>whnf)
 (refine cP ?_;refine dL q0 ?_)
 (refine cP ?_;refine dL q1 ?_)
 (refine cP ?_;refine dL p0 ?_)
 (refine cP ?_;refine dL p1 ?_)
 rw [show decide (n>0)=true from zy16 h1];(conv=>whnf);rw [show (((Y.receiver.log.map zcs.row).length:Int)==1)=true by rw [zy2,h2];rfl]
 try rfl
theorem yoz:zao Tryz.prog 20 [] zae (zbk true) zae:=by
 have hw:zmw (ygo 65530)=0:=by decide
 have p0:=yga (ygo 65530) [⟨1,0,sm 0 0 hi⟩] zz5;rw [yme hw (by decide)] at p0;obtain ⟨hli,hsl⟩:=yst hw [⟨1,0,sm 0 0 hi⟩] zz5;have p1:=zdm (znd (zpm (ygo 65530)) [⟨1,0,sm 0 0 hi⟩]).1 hli hsl zz0 zz0;have hl:=zrs (D:=hi) ⟨by decide,by decide⟩ (first:=65530) ⟨by decide,by decide⟩ (t:=1) ⟨by decide,by decide⟩ (by decide +kernel);have hb:=ynk;have e:(znd (zpm (ygo 65530)) [⟨1,0,sm 0 0 hi⟩]).1=ydv 65530 hi 1:=rfl;rw [e] at p0 p1;refine yqk p0 p1 ?_ ?_
 . rw [zkk (n:=399) hb]
   show (0:Int)<(((zet 399 _).2+1:Nat):Int);omega
 . rw [hl];rfl
theorem xic (s:ByteArray):((⟨(bs s).toArray⟩:ByteArray).toList==s.toList)=true:=by rw [xby];exact beq_self_eq_true _
end Tp
namespace Tp
open Ser Snd Ln
theorem ydw (first:Int) (s:ByteArray):∀ t,(znd (zpm (ygo first)) (List.replicate t (stm 0 0 s))).1=ydv first (bs s) t
 | 0=>rfl
 | t+1=>by
  rw [List.replicate_succ',yak];show (znd (znd _ _).1 [stm 0 0 s]).1=_;rw [ydw first s t];rfl
theorem yzf (first:Int) (s:ByteArray) (times:Int):zao Tryz.prog 19 [i64 first,xgh s,i64 times] zae (zbk true) zae:=by
 have qs:=ypn s;refine zap mixed Tryz.func19 zz5 ?_;(conv=>whnf)
 (refine cP ?_;refine dL yoz ?_)
 by_cases c1:first<0
 . rw [show decide (first<0)=true from zy16 c1]
   conv=>whnf
   try rfl
 rw [show decide (first<0)=false from zy19 c1];(conv=>whnf);by_cases c2:first>=65536
 . rw [show decide (first>=65536)=true from zy16 c2]
   conv=>whnf
   try rfl
 rw [show decide (first>=65536)=false from zy19 c2];(conv=>whnf)
 (refine cP ?_;refine dL qs ?_)
 by_cases ha:1<=s.size/\s.size<=60
 case neg =>
  rw [show decide (1<=s.size/\s.size<=60)=false from zy19 ha];(conv=>whnf)
  try rfl
 rw [show decide (1<=s.size/\s.size<=60)=true from zy16 ha];(conv=>whnf);by_cases c3:times<1
 . rw [show decide (times<1)=true from zy16 c3]
   conv=>whnf
   try rfl
 rw [show decide (times<1)=false from zy19 c3];(conv=>whnf);by_cases c4:times>12
 . rw [show decide (times>12)=true from zy16 c4]
   conv=>whnf
   try rfl
 rw [show decide (times>12)=false from zy19 c4];(conv=>whnf);have q0:=zvd 1 1
 (refine cP ?_;refine dL q0 ?_)
 obtain ⟨t,rfl⟩:∃ t:Nat,times=t:=⟨times.toNat,by omega⟩
 have ht1:1<=t:=by omega
 have ht12:t<=12:=by omega
 refine ⟨{x:Nat×List Step // x.1<=t/\x.2=List.replicate x.1 (stm 0 0 s)},fun | ⟨(j,a),_⟩=>hs 90 [(1,xgh s),(2,i64 t),(7,.ptr 7 0),(8,.own 900),(40,i64 t),(41,i64 j)] [(7,.live (.cells 24 [.p (pi 1),.p (pi 4),.p (pi 60),.p (pi 1),.p (pi 1),.p (pi 12),.p (pi first)])),(900,.live (.row 50 7 (a.map Step.row)))],fun j=>t-j.1.1,⟨(0,[]),zy104 _,rfl⟩,?_,?_⟩
 . exact (zdx [(7,some 7),(900,none)])
 rintro ⟨⟨j,a⟩,hj,hja⟩;dsimp only at hj hja;(conv=>whnf);by_cases hjt:j=t
 case neg =>
  refine zai (zy16 zz0) (zw ?_);have q1:=zpd 0 0 s ha.2
  (refine cP ?_;refine dL q1 ?_)
  refine zaa (by show ((a.map Step.row).length+1)*72<=140737488355328;rw [zy2,hja,zy76];omega) ?_;(conv=>whnf);refine sF ?_;exact ⟨⟨(j+1,a++[stm 0 0 s]),by dsimp only;omega,by dsimp only;rw [hja,List.replicate_succ']⟩,(zcr [(7,some 7),(900,some 47)] zz54),by dsimp only;omega⟩
 refine zag (zy19 zz0) (zw ?_);subst hjt;subst hja;have hf:0<=first/\first<65536:=by omega
 have hw:zmw (ygo first)=0:=by
  unfold zmw ygo;dsimp only;rw [zy0 (by omega),zy0 (by decide)]
 have p0:=yga (ygo first) (List.replicate j (stm 0 0 s)) (fun x hx=>by
  rw [zy64 hx];show (bs s).length<_;rw [xaf];omega)
 have hr200:(List.replicate j (stm 0 0 s)).length<=200:=by rw [zy76];omega
 rw [yme hw hr200] at p0;obtain ⟨hli,hsl⟩:=yst hw (List.replicate j (stm 0 0 s)) hr200;have p1:=zdm (znd (zpm (ygo first)) (List.replicate j (stm 0 0 s))).1 hli hsl zz0 zz0;have hl:=yuh (D:=bs s) (by rw [xaf];exact ha) hf (t:=j) ⟨ht1,ht12⟩;rw [show ydv first (bs s) j=(znd (zpm (ygo first)) (List.replicate j (stm 0 0 s))).1 from (ydw first s j).symm] at hl;generalize znd (zpm (ygo first)) (List.replicate j (stm 0 0 s))=X at p0 p1 hl;generalize zet 400 X.1=T at p1 hl;obtain ⟨X,az⟩:=X;obtain ⟨T,n⟩:=T;dsimp only at p0 p1 hl
 (refine cP ?_;refine dL p0 ?_)
 (refine cP ?_;refine dL p1 ?_)
 have hlen:T.receiver.log.length=j:=by rw [hl,zy2,zy154]
 refine zag (by rw [zy2,hlen];exact bne_self_eq_false _) (zw ?_)
 (try refine sG ?_)
 refine ⟨{i:Nat // i<=j},fun | ⟨i,_⟩=>hs 90 [(1,xgh s),(71,.p (.sl 4 (T.receiver.log.map zcs.row))),(72,i64 j),(73,i64 i)] [],fun i=>j-i.1,⟨0,zy104 _⟩,?_,?_⟩
 . rw [zy2,hlen]
   exact (zdx [])
 rintro ⟨i,hi⟩;(conv=>whnf);by_cases hij:i=j
 case pos =>
  refine zag (zy19 zz0) ?_;(conv=>whnf)
  try rfl
 refine zai (zy16 zz0) (zw ?_);refine zbz (r:=(⟨0,(i:Int),true,bs s⟩:zcs).row) zz0 (by rw [hl,zy10,zy10,show (i:Int).toNat=i by omega,zy85 (by omega)];rfl) ?_;conv=>whnf
 refine ycz (bs:=bs s) rfl (zw ?_);rw [xic];(conv=>whnf);rw [show ((i:Int) != (i:Int))=false from bne_self_eq_false _];(conv=>whnf);refine sF ?_;exact ⟨⟨i+1,by omega⟩,(zdx []),by show j-(i+1)<j-i;omega⟩
end Tp
end Go.HL
