/- Walks, contracts and laws of the law's functions: part 7. No condition. -/
import Derived.Test.YticmofoeecjnhaaGreatQCf
open Go.Proofs
set_option maxHeartbeats 32000000
set_option maxRecDepth 100000
set_option linter.unusedSimpArgs false
namespace Go.HL
namespace Tp
namespace GM
theorem yxd:∀ (a b:Nat),a<60->b<60->zeb (zbt (a+1) (b+1))=true
 | 0,b,h,hb=>zy7.1 fi0 b (zy15.2 hb)
 | 1,b,h,hb=>zy7.1 fi1 b (zy15.2 hb)
 | 2,b,h,hb=>zy7.1 fi2 b (zy15.2 hb)
 | 3,b,h,hb=>zy7.1 fi3 b (zy15.2 hb)
 | 4,b,h,hb=>zy7.1 fi4 b (zy15.2 hb)
 | 5,b,h,hb=>zy7.1 fi5 b (zy15.2 hb)
 | 6,b,h,hb=>zy7.1 fi6 b (zy15.2 hb)
 | 7,b,h,hb=>zy7.1 fi7 b (zy15.2 hb)
 | 8,b,h,hb=>zy7.1 fi8 b (zy15.2 hb)
 | 9,b,h,hb=>zy7.1 fi9 b (zy15.2 hb)
 | 10,b,h,hb=>zy7.1 xiv b (zy15.2 hb)
 | 11,b,h,hb=>zy7.1 xiw b (zy15.2 hb)
 | 12,b,h,hb=>zy7.1 xix b (zy15.2 hb)
 | 13,b,h,hb=>zy7.1 xiy b (zy15.2 hb)
 | 14,b,h,hb=>zy7.1 xiz b (zy15.2 hb)
 | 15,b,h,hb=>zy7.1 xja b (zy15.2 hb)
 | 16,b,h,hb=>zy7.1 xjb b (zy15.2 hb)
 | 17,b,h,hb=>zy7.1 xjc b (zy15.2 hb)
 | 18,b,h,hb=>zy7.1 xjd b (zy15.2 hb)
 | 19,b,h,hb=>zy7.1 xje b (zy15.2 hb)
 | 20,b,h,hb=>zy7.1 xjf b (zy15.2 hb)
 | 21,b,h,hb=>zy7.1 xjg b (zy15.2 hb)
 | 22,b,h,hb=>zy7.1 xjh b (zy15.2 hb)
 | 23,b,h,hb=>zy7.1 xji b (zy15.2 hb)
 | 24,b,h,hb=>zy7.1 xjj b (zy15.2 hb)
 | 25,b,h,hb=>zy7.1 xjk b (zy15.2 hb)
 | 26,b,h,hb=>zy7.1 xjl b (zy15.2 hb)
 | 27,b,h,hb=>zy7.1 xjm b (zy15.2 hb)
 | 28,b,h,hb=>zy7.1 xjn b (zy15.2 hb)
 | 29,b,h,hb=>zy7.1 xjo b (zy15.2 hb)
 | 30,b,h,hb=>zy7.1 xjp b (zy15.2 hb)
 | 31,b,h,hb=>zy7.1 xjq b (zy15.2 hb)
 | 32,b,h,hb=>zy7.1 xjr b (zy15.2 hb)
 | 33,b,h,hb=>zy7.1 xjs b (zy15.2 hb)
 | 34,b,h,hb=>zy7.1 xjt b (zy15.2 hb)
 | 35,b,h,hb=>zy7.1 xju b (zy15.2 hb)
 | 36,b,h,hb=>zy7.1 xjv b (zy15.2 hb)
 | 37,b,h,hb=>zy7.1 xjw b (zy15.2 hb)
 | 38,b,h,hb=>zy7.1 xjx b (zy15.2 hb)
 | 39,b,h,hb=>zy7.1 xjy b (zy15.2 hb)
 | 40,b,h,hb=>zy7.1 xjz b (zy15.2 hb)
 | 41,b,h,hb=>zy7.1 xka b (zy15.2 hb)
 | 42,b,h,hb=>zy7.1 xkb b (zy15.2 hb)
 | 43,b,h,hb=>zy7.1 xkc b (zy15.2 hb)
 | 44,b,h,hb=>zy7.1 xkd b (zy15.2 hb)
 | 45,b,h,hb=>zy7.1 xke b (zy15.2 hb)
 | 46,b,h,hb=>zy7.1 xkf b (zy15.2 hb)
 | 47,b,h,hb=>zy7.1 xkg b (zy15.2 hb)
 | 48,b,h,hb=>zy7.1 xkh b (zy15.2 hb)
 | 49,b,h,hb=>zy7.1 xki b (zy15.2 hb)
 | 50,b,h,hb=>zy7.1 xkj b (zy15.2 hb)
 | 51,b,h,hb=>zy7.1 xkk b (zy15.2 hb)
 | 52,b,h,hb=>zy7.1 xkl b (zy15.2 hb)
 | 53,b,h,hb=>zy7.1 xkm b (zy15.2 hb)
 | 54,b,h,hb=>zy7.1 xkn b (zy15.2 hb)
 | 55,b,h,hb=>zy7.1 xko b (zy15.2 hb)
 | 56,b,h,hb=>zy7.1 xkp b (zy15.2 hb)
 | 57,b,h,hb=>zy7.1 xkq b (zy15.2 hb)
 | 58,b,h,hb=>zy7.1 xkr b (zy15.2 hb)
 | 59,b,h,hb=>zy7.1 xks b (zy15.2 hb)
 | n+60,b,h,hb=>absurd h (by omega)
end GM
end Tp
namespace Tp
namespace GM
end GM
end Tp
namespace Tp
namespace GM
end GM
end Tp
namespace Tp
namespace GM
end GM
end Tp
namespace Tp
namespace GM
end GM
end Tp
namespace Tp
namespace GM
end GM
end Tp
namespace Tp
namespace GM
end GM
end Tp
namespace Tp
open Ser Snd Ln
section
variable {E:List Int} {c:Config} {n d N h S:Nat} {k f T:Int} {P:Nat} {Cs:List CH} {l:zdn} {g:GM}
theorem LX.log (r:LX E c n d k N h S f T P Cs l g) (h1:g.todo=[]) (h2:g.out=[]) (h3:g.R=g.a):l.receiver.log=((RS.new h).run (Cs.drop h)).lg/\l.sender.queue=[]/\l.sender.out=[]:=by
 have htd:=r.lr.sr.todo;rw [h1] at htd;have hz:=zy123.1 htd.symm;have hle:Cs.length<=g.a+g.out.length:=List.drop_eq_nil_iff.1 hz;have hal:=r.lr.alen;rw [h2,zy14] at hle hal;have hR:g.R=Cs.length:=by omega
 refine ⟨?_,yas r.lr.si r.lr.sr.qc (by rw [r.lr.sr.rest,hz]),zy67.1 (by rw [r.lr.sr.len,h2];rfl)⟩;have hl:=r.lr.cs.hl;rcases r.lr.rr.ri with ⟨e1,e2,-⟩ | ⟨-,e⟩
 . omega
 . have:=e.log
   rw [this,hR,zy37 (by rw [zy34];omega)]
theorem ykp (h:GM.zeb g=true):g.ok=true/\g.todo=[]/\g.out=[]/\g.way=[]/\g.R=g.a:=by
 have h1:=GM.zdv h;have h2:=GM.zhp h1;unfold GM.busy at h2;rw [Bool.not_not] at h2;exact ⟨GM.zdv h1,zy121.1 (GM.zdv (GM.zdv h2)),zy121.1 (GM.zhp (GM.zdv h2)),zy121.1 (GM.zhp h2),zy4 (GM.zhp h)⟩
theorem yrd {m:Nat} (hf:GM.zeb (GM.settle h m g)=true):g.ok=true:=zqu m (GM.zdv (GM.zdv hf))
theorem yms {t:List Nat} (h:(GM.send g t).ok=true):g.ok=true:=by
 have:=zki h;exact this
end
theorem zzr {S:Nat}:∀ {a b:List CH} {st:RS},zxe S st a->zxe S (st.run a) b->zxe S st (a++b)
 | [],_,_,_,h=>h
 | _::_,_,_,h,k=>⟨h.1,h.2.1,h.2.2.1,h.2.2.2.1,h.2.2.2.2.1,zzr h.2.2.2.2.2 k⟩
theorem zzs {S k mid:Nat} (hk:k<S) {d:List UInt8} {st:RS} (hd:1<=d.length/\d.length<=60) (h1:st.T k=mid) (h2:st.U k=[]) (h3:mid<1000):zxe S st (zjz k mid d.length 0 d):=by
 have:=ykt hk d.length 0 d st [] (zy19 _) hd.1 h1 (by rw [h2];rfl) h3 (by rw [h2];show 0+d.length<=60;omega) trivial
 rwa [zy8] at this
def ywm:Config:=⟨2,4,60,1,1,12,65530⟩
def xdp (A B:List UInt8):zdn:=(doS (doS (zos ywm) ⟨1,0,sm 1 0 A⟩).1 ⟨1,0,sm 0 0 B⟩).1
theorem xay {S k mid:Nat} {f:Int} {D:List UInt8} (hk:k<S) (hS:S=1\/S=2) (hD:1<=D.length/\D.length<=60) (hf:0<=f/\f<65536) (hm:mid=0):yqc 0 S f (zjz k mid D.length 0 D):=by
 subst hm;refine ⟨by have:=zog (k:=k) (mid:=0) D.length 0 D;omega,zts (by omega) (by decide) _ _ _ (by omega) hD.1,hf.1,hf.2,?_,.inl rfl,hS,zy104 _⟩;exact zzs hk hD rfl rfl zz5
theorem yre {A B:List UInt8} (hA:1<=A.length/\A.length<=60) (hB:1<=B.length/\B.length<=60):(zen 400 (xdp A B)).1.receiver.log=[⟨1,0,true,A⟩,⟨0,0,true,B⟩]:=by
 have hev:=GM.yxd (A.length-1) (B.length-1) (by omega) (by omega);rw [show A.length-1+1=A.length by omega,show B.length-1+1=B.length by omega] at hev;unfold GM.zbt at hev;have ok2:=yrd hev;have ok1:=yms ok2;have r0:LX [0,0,0,0] ywm 0 0 0 0 0 2 65530 100000 1 [] (zos ywm) (GM.new []):=xau (c:=ywm) zz5 (.inl rfl) rfl rfl rfl rfl (.inr rfl) ⟨by decide,by decide⟩;have c1:=xay (S:=2) (k:=1) (f:=65530) zz5 (.inr rfl) hA ⟨by decide,by decide⟩ rfl;have r1:=yax r0 (st:=1) (life:=0) (D:=A) (mid:=0) rfl zz5 ⟨by decide,by decide,.inl ⟨rfl,rfl⟩⟩ hA zz5 zz5 rfl c1 ok1;have hends:ends ([]++zjz 1 0 A.length 0 A)=1:=zof _ _ _ (zy19 _) hA.1;have c2:yqc 0 2 65530 (([]++zjz 1 0 A.length 0 A)++zjz 0 0 B.length 0 B):=by
  have b1:=xay (S:=2) (k:=0) (f:=65530) zz5 (.inr rfl) hB ⟨by decide,by decide⟩ rfl;refine ⟨by rw [zy85,zy5];have:=zog (k:=1) (mid:=0) A.length 0 A;have:=zog (k:=0) (mid:=0) B.length 0 B;omega,fun x hx=>?_,by decide,by decide,?_,.inl rfl,.inr rfl,zy104 _⟩
  . rcases zy16.1 hx with hx | hx
    . exact c1.zeb x hx
    . exact b1.zeb x hx
  . refine zzr c1.zxe ?_
    show zxe 2 ((RS.new 0).run (zjz 1 0 A.length 0 A)) _;rw [zvb _ _ _ _ (zy19 _) hA.1];exact zzs zz5 hB rfl rfl zz5
 have r2:=yax r1 (st:=0) (life:=0) (D:=B) (mid:=0) rfl zz5 ⟨by decide,by decide,.inl ⟨rfl,rfl⟩⟩ hB (by rw [hends];decide) zz5 rfl c2 ok2;obtain ⟨k2,r3⟩:=zve 400 r2 rfl zz5 hev;obtain ⟨f1,f2,f3,f4,f5⟩:=ykp hev;have:=(r3.log f2 f3 f5).1;rw [show (zen 400 (xdp A B)).1.receiver.log=_ from this];show ((RS.new 0).run (zjz 1 0 A.length 0 A++zjz 0 0 B.length 0 B)).lg=_;rw [yuo,zvb _ _ _ _ (zy19 _) hA.1,zvb _ _ _ _ (zy19 _) hB.1];rfl
def ywn (first:Int):Config:=⟨1,4,60,1,1,12,first⟩
def csR (D:List UInt8):Nat->List CH
 | 0=>[]
 | t+1=>csR D t++zjz 0 t D.length 0 D
def ysy (first:Int) (D:List UInt8):Nat->zdn
 | 0=>zos (ywn first)
 | t+1=>(doS (ysy first D t) ⟨1,0,sm 0 0 D⟩).1
theorem yjw {D:List UInt8} (hD:1<=D.length/\D.length<=60) {first:Int} (hf:0<=first/\first<65536):∀ t,t<=12->yqc 0 1 first (csR D t)/\ends (csR D t)=t/\(csR D t).length<=60*t/\((RS.new 0).run (csR D t)).T 0=t/\((RS.new 0).run (csR D t)).U 0=[]/\((RS.new 0).run (csR D t)).lg=(List.range t).map fun j=>⟨0,(j:Int),true,D⟩
 | 0,_=>⟨⟨show 0<=1000 by decide,fun x hx=>(by cases hx),hf.1,hf.2,trivial,.inl rfl,.inl rfl,zy19 _⟩,rfl,zy19 _,rfl,rfl,rfl⟩
 | t+1,ht=>by
  obtain ⟨h1,h2,h3,h4,h5,h6⟩:=yjw hD hf t (by omega);have hl:=zog (k:=0) (mid:=t) D.length 0 D;have zea:(RS.new 0).run (csR D (t+1))=((RS.new 0).run (csR D t)).done 0 D:=by
   show (RS.new 0).run (csR D t++_)=_;rw [yuo,zvb _ _ _ _ (zy19 _) hD.1]
  refine ⟨⟨?_,fun x hx=>?_,hf.1,hf.2,?_,.inl rfl,.inl rfl,zy104 _⟩,?_,?_,?_,?_,?_⟩
  . show (csR D t++_).length<=1000
    rw [zy5];omega
  . rcases zy16.1 (show x∈csR D t++_ from hx) with hx | hx
    . exact h1.zeb x hx
    . exact zts (by decide) (by omega) _ _ _ (by omega) hD.1 x hx
  . exact zzr h1.zxe (zzs (by decide) hD h4 h5 (by omega))
  . show ends (csR D t++_)=_
    rw [ykb,h2,zof _ _ _ (zy19 _) hD.1]
  . show (csR D t++_).length<=_
    rw [zy5];omega
  . rw [zea]
    show at1 ((RS.new 0).run (csR D t)).T 0 (((RS.new 0).run (csR D t)).T 0+1) 0=t+1;rw [zsj,h4]
  . rw [zea]
    show at1 ((RS.new 0).run (csR D t)).U 0 [] 0=[];exact zsj _ _ _
  . rw [zea]
    show ((RS.new 0).run (csR D t)).lg++[⟨0,((((RS.new 0).run (csR D t)).T 0:Nat):Int),true,(((RS.new 0).run (csR D t)).U 0).flatten++D⟩]=_;rw [h4,h5,h6,List.range_succ,zy36];rfl
theorem zuz {D:List UInt8} (hD:1<=D.length/\D.length<=60) {first:Int} (hf:0<=first/\first<65536):∀ t,t<=12->(GM.ymt D.length t).ok=true->LX [(t:Int),0] (ywn first) t 0 0 t 0 1 first 100000 1 (csR D t) (ysy first D t) (GM.ymt D.length t)
 | 0,_,_=>xau (c:=ywn first) (by
  unfold znf ywn;dsimp only;rw [zy0 (by omega),zy0 (by decide)]) (.inl rfl) rfl rfl rfl rfl (.inl rfl) ⟨by decide,by decide⟩
 | t+1,ht,hok=>by
  have ih:=zuz hD hf t (by omega) (yms hok);have:=yax ih (st:=0) (life:=0) (D:=D) (mid:=t) rfl (show (0:Int)<1 by decide) ⟨by decide,by decide,.inl ⟨rfl,rfl⟩⟩ hD (by rw [(yjw hD hf t (by omega)).2.1];show ((t:Nat):Int)<12;omega) zz0 rfl (yjw hD hf (t+1) ht).1 hok;have e:yyh [(t:Int),0] 0=[((t+1:Nat):Int),0]:=by
   show [W ((t:Int)+1),0]=_;rw [zbh (by omega) (by omega)];rfl
  rw [e] at this;exact this
theorem yfa {D:List UInt8} (hD:1<=D.length/\D.length<=60) {first:Int} (hf:0<=first/\first<65536) {t:Nat} (ht:1<=t/\t<=12) (hev:GM.zeb (GM.xbh D.length t)=true):(zen 400 (ysy first D t)).1.receiver.log=(List.range t).map fun j=>⟨0,(j:Int),true,D⟩:=by
 unfold GM.xbh at hev;have r:=zuz hD hf t ht.2 (yrd hev);obtain ⟨k2,r3⟩:=zve 400 r rfl zz5 hev;obtain ⟨f1,f2,f3,f4,f5⟩:=ykp hev;rw [(r3.log f2 f3 f5).1];exact (yjw hD hf t ht.2).2.2.2.2.2
end Tp
namespace Tp
open Ser Snd Ln
def xhl (s:ByteArray):HV:=.p (.v (.string s))
def bs (s:ByteArray):List UInt8:=s.data.toList
def stm (k life:Int) (s:ByteArray):Step:=⟨1,0,sm k life (bs s)⟩
theorem yjp (s:ByteArray):(bs s).length=s.size:=by cases s;exact zy140
theorem xcb (s:ByteArray):(⟨(bs s).toArray⟩:ByteArray)=s:=by unfold bs;cases s;simp
theorem zvg (st tu:Int):zao Tryz.prog 22 [i64 st,i64 tu] zae (⟨st,4,60,1,tu,12,65530⟩:Config).hv zae:=by
 refine zap mixed Tryz.func22 zz5 ?_;(conv=>whnf)
 rfl
theorem zly (k life:Int) (s:ByteArray) (hs:s.size<=60):zao Tryz.prog 23 [i64 k,xhl s,i64 life] zae (stm k life s).hv zae:=by
 refine zap mixed Tryz.func23 zz5 ?_;(conv=>whnf);refine zaa (c:=s.size<=maxLen) (by unfold maxLen;omega) (zw ?_)
 rfl
theorem zyj (s:ByteArray):zao Tryz.prog 25 [xhl s] zae (zbk (decide (1<=s.size/\s.size<=60))) zae:=by
 refine zap mixed Tryz.func25 zz5 ?_;(conv=>whnf);by_cases h1:1<=s.size
 . refine zai (zy18 (by show (0:Int)<(s.size:Int);omega)) (zw ?_)
   by_cases h2:s.size<=60
   . rw [show decide (1<=s.size/\s.size<=60)=true from zy18 ⟨h1,h2⟩,show decide ((s.size:Int)<=60)=true from zy18 (by omega)]
   . rw [show decide (1<=s.size/\s.size<=60)=false from zy22 (fun h=>h2 h.2),show decide ((s.size:Int)<=60)=false from zy22 (by omega)]
 . refine zah (zy22 (by show ¬ (0:Int)<(s.size:Int);omega)) (zw ?_)
   rw [show decide (1<=s.size/\s.size<=60)=false from zy22 (fun h=>h1 h.1)]
def hi:List UInt8:=[104,105]
theorem ynn:busy (ysy 65530 hi 1)=true:=by
 have h:=zuz (D:=hi) ⟨by decide,by decide⟩ (first:=65530) ⟨by decide,by decide⟩ 1 zz5 (by decide +kernel);rw [h.busy]
 decide +kernel
theorem ysz {c:Config} (h:znf c=0) (l:List Step) (hl:l.length<=200):LI 200 24000 (zou (zos c) l).1/\SL (zou (zos c) l).1.sender:=by
 have:=ymi l (yih h) zz0 zz0;exact ⟨⟨this.snd.mono zz0 zz0,this.rcv.more zz0,by omega,this.way,this.bytes⟩,yuc l (yih h) (xdt h) zz0 zz0⟩
theorem ymf {c:Config} {l:List Step} (h:znf c=0) (hl:l.length<=200):zmw c l=((zou (zos c) l).1,(zou (zos c) l).2,0):=by rw [zmw,zy0 (fun k=>k h),zy0 (by omega)]
theorem yqn {X Y:zdn} {n:Int} {az:List Answer} (p0:zao Tryz.prog 21 [(ywn 65530).hv,xhb [⟨1,0,sm 0 0 hi⟩]] zae (.tup [X.hv,.p (.sl 2 (az.map Answer.row)),i64 0]) zae) (p1:zao Tryz.prog 24 [X.hv] zae (.tup [Y.hv,i64 n]) zae) (h1:0<n) (h2:Y.receiver.log.length=1) :
 zao Tryz.prog 20 [] zae (zbk true) zae:=by
 have q0:=zvg 1 1;have q1:=zly 0 0 ⟨#[104,105]⟩ zz5;refine zap mixed Tryz.func20 zz5 ?_;(conv=>whnf)
 (refine cP ?_;refine dL q0 ?_)
 (refine cP ?_;refine dL q1 ?_)
 (refine cP ?_;refine dL p0 ?_)
 (refine cP ?_;refine dL p1 ?_)
 rw [show decide (n>0)=true from zy18 h1];(conv=>whnf);rw [show (((Y.receiver.log.map zcq.row).length:Int)==1)=true by rw [zy2,h2];rfl]
 try rfl
theorem ypc:zao Tryz.prog 20 [] zae (zbk true) zae:=by
 have hw:znf (ywn 65530)=0:=by decide
 have p0:=ygd (ywn 65530) [⟨1,0,sm 0 0 hi⟩] zz5;rw [ymf hw (by decide)] at p0;obtain ⟨hli,hsl⟩:=ysz hw [⟨1,0,sm 0 0 hi⟩] zz5;have p1:=zdm (zou (zos (ywn 65530)) [⟨1,0,sm 0 0 hi⟩]).1 hli hsl zz0 zz0;have hl:=yfa (D:=hi) ⟨by decide,by decide⟩ (first:=65530) ⟨by decide,by decide⟩ (t:=1) ⟨by decide,by decide⟩ (by decide +kernel);have hb:=ynn;have e:(zou (zos (ywn 65530)) [⟨1,0,sm 0 0 hi⟩]).1=ysy 65530 hi 1:=rfl;rw [e] at p0 p1;refine yqn p0 p1 ?_ ?_
 . rw [zkl (n:=399) hb]
   show (0:Int)<(((zen 399 _).2+1:Nat):Int);omega
 . rw [hl];rfl
theorem xft (s:ByteArray):((⟨(bs s).toArray⟩:ByteArray).toList==s.toList)=true:=by rw [xcb];exact beq_self_eq_true _
theorem yxe (a b:ByteArray):zao Tryz.prog 4 [xhl a,xhl b] zae (zbk true) zae:=by
 have qa:=zyj a;have qb:=zyj b;refine zap mixed Tryz.func4 zz5 ?_;(conv=>whnf)
 (refine cP ?_;refine dL ypc ?_)
 (refine cP ?_;refine dL qa ?_)
 by_cases ha:1<=a.size/\a.size<=60
 case neg =>
  rw [show decide (1<=a.size/\a.size<=60)=false from zy22 ha];(conv=>whnf)
  try rfl
 rw [show decide (1<=a.size/\a.size<=60)=true from zy18 ha];(conv=>whnf)
 (refine cP ?_;refine dL qb ?_)
 by_cases hb:1<=b.size/\b.size<=60
 case neg =>
  rw [show decide (1<=b.size/\b.size<=60)=false from zy22 hb];(conv=>whnf)
  try rfl
 rw [show decide (1<=b.size/\b.size<=60)=true from zy18 hb];(conv=>whnf);have hw:znf ywm=0:=by decide
 have q0:=zvg 2 1;have q1:=zly 1 0 a ha.2;have q2:=zly 0 0 b hb.2;have p0:=ygd ywm [stm 1 0 a,stm 0 0 b] (fun x hx=>by
  rcases zy17.1 hx with rfl | hx
  . show (bs a).length<_;rw [yjp];omega
  . rw [zy23] at hx;subst hx
    show (bs b).length<_;rw [yjp];omega)
 rw [ymf hw (by show 2<=200;decide)] at p0;obtain ⟨hli,hsl⟩:=ysz hw [stm 1 0 a,stm 0 0 b] (by show 2<=200;decide);have p1:=zdm (zou (zos ywm) [stm 1 0 a,stm 0 0 b]).1 hli hsl zz0 zz0;have hl:=yre (A:=bs a) (B:=bs b) (by rw [yjp];exact ha) (by rw [yjp];exact hb);rw [show xdp (bs a) (bs b)=(zou (zos ywm) [stm 1 0 a,stm 0 0 b]).1 from rfl] at hl;generalize zou (zos ywm) [stm 1 0 a,stm 0 0 b]=X at p0 p1 hl;generalize zen 400 X.1=T at p1 hl;obtain ⟨X,az⟩:=X;obtain ⟨T,n⟩:=T;dsimp only at p0 p1 hl
 (refine cP ?_;refine dL q0 ?_)
 (refine cP ?_;refine dL q1 ?_)
 (refine cP ?_;refine dL q2 ?_)
 (refine cP ?_;refine dL p0 ?_)
 (refine cP ?_;refine dL p1 ?_)
 rw [show (((T.receiver.log.map zcq.row).length:Int)==2)=true by rw [zy2,hl];rfl];(conv=>whnf);refine zbz (r:=(⟨1,0,true,bs a⟩:zcq).row) zz5 (by rw [hl];rfl) (zw ?_);refine zrl (bs:=bs a) rfl (zw ?_);rw [xft];(conv=>whnf);refine zbz (r:=(⟨0,0,true,bs b⟩:zcq).row) zz5 (by rw [hl];rfl) (zw ?_);refine zrl (bs:=bs b) rfl (zw ?_);rw [xft]
 try rfl
end Tp
end Go.HL
