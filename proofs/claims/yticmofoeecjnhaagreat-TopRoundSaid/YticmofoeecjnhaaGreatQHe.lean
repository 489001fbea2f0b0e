/- Walks, contracts and laws of the law's functions: part 5. No condition. -/
import Derived.Test.YticmofoeecjnhaaGreatQHd
open Go.Proofs
set_option maxHeartbeats 32000000
set_option maxRecDepth 100000
set_option linter.unusedSimpArgs false
theorem yy32 {P:Prop} (h:P:=by
 refine ⟨by dsimp only;omega,by dsimp only;omega,by dsimp only;omega,u3,u5,fun s hs=>?_,by dsimp only;omega,?_,h9,fun t htt=>by have:=h10 t htt;dsimp only;omega,h11⟩
 . have:=h6 s (u4 s hs);dsimp only;omega
 . dsimp only
   rcases u6 with u6 | ⟨s,hs,u6⟩
   . omega
   . have:=h6 s hs;omega):P:=h
theorem yy11 {P:Prop} (h:P:=by
 exact zam [(0,some 20)] rfl rfl trivial rfl rfl ⟨⟨rfl,.inl ⟨20,rfl,rfl⟩⟩,trivial⟩):P:=h
theorem yy21 {P:Prop} (h:P:=by
 refine sD ?_;exact zam [(0,some 950)] rfl rfl trivial rfl rfl ⟨⟨rfl,.inl ⟨950,rfl,rfl⟩⟩,trivial⟩):P:=h
theorem yy16 {P:Prop} (h:P:=by
 have hk4:k<400:=by omega
 obtain ⟨n,hn⟩:∃ n,400-k=n+1:=⟨400-k-1,by omega⟩
 rw [hn,zkk hbz] at k2;dsimp only at k2;have hli:=yml k3 zz0 zz0;have hsl2:=ymm k3 k4 zz0 zz0;have pr:=zye y k3 k4 zz0 zz0;generalize round y=z at k2 hli hsl2 pr
 (try refine sG ?_)
 (refine cP ?_;refine dL pr ?_)
 refine sF ?_;refine hQ _ _ ?_;conv=>whnf
 exact ⟨⟨(k+1,z),by omega,by dsimp only;rw [show 400-(k+1)=n by omega];exact ⟨k2.1,by omega⟩,by dsimp only;rw [show N+41*(k+1)=N+41*k+41 by omega,show M+4920*(k+1)=M+4920*k+4920 by omega];exact hli,hsl2⟩,(zdx [(1,some 1),(2,some 2),(4,some 4)]),by show 400-(k+1)<400-k;omega⟩):P:=h
theorem yy77 {P:Prop} (h:P:=by
 refine hQ _ _ ?_;conv=>whnf
 obtain ⟨T1,T2⟩:=T;obtain ⟨e1,e2⟩:=k2;dsimp only at e1 e2;subst e1;rw [show ((T2:Nat):Int)=k from by omega]
 try rfl):P:=h
theorem yy96 {P:Prop} (h:P:=by
 rw [ht] at ih;rw [show g.a+(k+1)=g.a+k+1 by omega] at ih;simp only [zy33,List.singleton_append] at ih;exact ih):P:=h
theorem yy44 {P:Prop} (h:P:=by
 dsimp only;cases Nat.beq (GM.bytes (g.out.take k)) 0 with
 | true=>rfl
 | false =>
  dsimp only [cond];cases Nat.ble g.win g.slow with
  | true=>rfl
  | false =>
   dsimp only [cond];cases Nat.ble g.win (g.par+GM.bytes (g.out.take k))<;>rfl):P:=h
theorem yy58 {P:Prop} (h:P:=by
 exact ⟨⟨a1.turns,a1.part,a1.ord,a1.mids,a1.ends⟩,a2,a3,a4,a5,a6,a7,a8,a9,a10,a11,a12,rfl,a14,a15,a16,a17,a18,a19,⟨a20.win,a20.slow,a20.par,a20.wait,a20.wait1,a20.errs,a20.al⟩,⟨a21.queue,a21.out⟩⟩):P:=h
theorem yy88 {P:Prop} (h:P:=by
 have e2:(zgo s ch (Sco.zfq s.out s.cum ch s.paths.length)).forward=g.fwd:=by rw [hT.fwd,q5]
 rw [<- e2] at this ⊢;exact this):P:=h
namespace Go.HL
namespace Rcv
open Srt Jn Ser
def pass (r:Receiver) (k:Nat):Receiver:=ygn (if (dlv r k (tag (r.zbp[k]?.getD 0)) true).2 then (dlv r k (tag (r.zbp[k]?.getD 0)) true).1 else zld (dlv r k (tag (r.zbp[k]?.getD 0)) true).1 k (tag (r.zbp[k]?.getD 0)) true) k
def zxr:Nat->Receiver->Nat->Receiver
 | 0,r,_=>r
 | n+1,r,k=>zxr n (pass r k) k
def ybm (r:Receiver) (k:Nat) (n:Int):Receiver:=zxr (n+1-r.zbp[k]?.getD 0).toNat r k
def zlt (r:Receiver) (s:zga):Receiver :=
 if s.stream<0\/(r.zbp.length:Int)<=s.stream then r else if s.ordered=false then zld r s.stream s.mid false
 else turns (ybm r s.stream.toNat (zdf (r.zbp[s.stream.toNat]?.getD 0) s.mid)) s.stream.toNat
structure xio (r:Receiver):Prop where
 pieces:r.pieces.length<2 ^ 22
 bytes:tot r.pieces<2 ^ 22
 log:r.log.length+r.pieces.length<2 ^ 37
 lo:∀ t∈r.zbp,-(2 ^ 57)<t
 hi:∀ t∈r.zbp,t<2 ^ 57
theorem zxq (r:Receiver) (k:Nat):(pass r k).zbp=r.zbp.set k (r.zbp[k]?.getD 0+1)/\(pass r k).cum=r.cum/\(pass r k).zau=r.zau/\(pass r k).config=r.config/\(pass r k).pieces.length<=r.pieces.length/\tot (pass r k).pieces<=tot r.pieces /\
 (pass r k).log.length+(pass r k).pieces.length<=r.log.length+r.pieces.length:=by
 obtain ⟨h1,h2,h3,h4,h5,h6,h7⟩:=zlc r k (tag (r.zbp[k]?.getD 0)) true;unfold pass;generalize dlv r k (tag (r.zbp[k]?.getD 0)) true=D at *
 obtain ⟨y,ok⟩:=D;dsimp only at h1 h2 h3 h4 h5 h6 h7 ⊢;cases ok with
 | true=>exact ⟨by show y.zbp.set _ (y.zbp[k]?.getD 0+1)=_;rw [h1],h2,h3,h4,h5,h6,h7⟩
 | false =>
  have f1:=zy66 (fun p=>!zeh k (tag (r.zbp[k]?.getD 0)) true p) y.pieces;have f2:=zmo (fun p=>!zeh k (tag (r.zbp[k]?.getD 0)) true p) y.pieces;refine ⟨by show y.zbp.set _ (y.zbp[k]?.getD 0+1)=_;rw [h1],h2,h3,h4,?_,?_,?_⟩
  . show (List.filter _ _).length<=_;omega
  . show tot (List.filter _ _)<=_;omega
  . show _+(List.filter _ _).length<=_;show y.log.length+_<=_;omega
theorem yvv {r:Receiver} {k:Nat} {n:Int} (h:k<r.zbp.length) (hn:r.zbp[k]?.getD 0<=n):ybm r k n=ybm (pass r k) k n:=by
 obtain ⟨h1,_⟩:=zxq r k;unfold ybm;rw [h1,zy27 h];show zxr _ _ _=zxr (n+1-(r.zbp[k]?.getD 0+1)).toNat _ _;obtain ⟨j,hj⟩:∃ j,(n+1-r.zbp[k]?.getD 0).toNat=j+1:=⟨(n+1-r.zbp[k]?.getD 0).toNat-1,by omega⟩
 rw [hj,zxr,show (n+1-(r.zbp[k]?.getD 0+1)).toNat=j by omega]
theorem yzt {r:Receiver} {k:Nat} {n:Int} (hn:n<r.zbp[k]?.getD 0):ybm r k n=r:=by
 unfold ybm;rw [show (n+1-r.zbp[k]?.getD 0).toNat=0 by omega];rfl
theorem zvk (r:Receiver) (s:zga) (hf:xio r) :
 zao Tryz.prog 184 [.ptr 1000 0,s.hv] (lk .free (tkH r)) (.tup []) (lk .free (tkD (zlt r s))):=by
 obtain ⟨f1,f2,f3,f4,f5⟩:=hf;generalize hT:zlt r s=T;refine zan mixed Tryz.func184 zz5 [1000,1001,1002,1003,1004] zbi ?_;(conv=>whnf);by_cases c1:s.stream<0
 . rw [zlt,zy1 (.inl c1)] at hT
   subst hT;refine zai zz51 ?_;conv=>whnf
   refine sD ?_;exact yy76
 refine zag zz51 (zw ?_);refine sD ?_;by_cases c2:(r.zbp.length:Int)<=s.stream
 . rw [zlt,zy1 (.inr c2)] at hT
   subst hT;refine zai zz45 ?_;conv=>whnf
   exact yy76
 refine zag zz45 (zw ?_);cases hs3:s.ordered with
 | false =>
  rw [zlt,zy0 (by omega),zy1 hs3] at hT;subst hT;(conv=>whnf)
  try refine sG ?_
  (refine zac [] [(1000,1000),(1001,1001),(1002,1002),(1003,1003),(1004,1004)] [(0,910),(1,911),(2,912),(3,913)] ?_;(conv=>whnf);refine dG (zve r s.stream s.mid false zz0) ?_)
  exact yy56
 | true =>
 rw [zlt,zy0 (by omega),zy0 (by rw [hs3];decide)] at hT;obtain ⟨k,hk⟩:∃ k:Nat,s.stream=k:=⟨s.stream.toNat,by omega⟩
 have hkl:k<r.zbp.length:=by omega
 have hg:r.zbp[k]?.getD 0=r.zbp[k]:=by simp [hkl]
 have b1:=f4 _ (zy83 hkl);have b2:=f5 _ (zy83 hkl);rw [show s.stream.toNat=k by omega,hg] at hT;(conv=>whnf)
 try refine sG ?_
 refine sO ?_;refine zdk k zz0 hkl (zw ?_)
 (refine cL ?_;refine dL (zjv r.zbp[k] s.mid) ?_)
 refine sD ?_;obtain ⟨n1,n2,n3⟩:=zlo (a:=r.zbp[k]) (t:=s.mid) zz0 zz0;generalize zdf r.zbp[k] s.mid=n at hT n1 n2 n3 ⊢;refine ⟨{x:Receiver // xfp x k/\x.zbp[k]?.getD 0<=2 ^ 58/\turns (ybm x k n) k=T},fun | ⟨x,_⟩=>hsP [1000,1001,1002,1003,1004] 88 [(0,.ptr 1000 0),(3,.ptr 3 0),(4,i64 n)] ((1000,.live (.cells 225 (yzc x (.own 900) (.own 901) (.own 902) (.own 903))))::yzb x 900 901 902 903 [(3,.live (.cells 180 [i64 s.stream,i64 s.mid,zbk true])),(1001,.dead),(1002,.dead),(1003,.dead),(1004,.dead)]),fun x=>(n+1-x.1.zbp[k]?.getD 0).toNat,⟨r,⟨f1,f2,f3,hkl,by rw [hg];omega,by rw [hg];omega⟩,by rw [hg];omega,hT⟩,?_,?_⟩
 . exact (zcx (pK5 ((900,some 1001)::(901,some 1002)::(902,some 1003)::(903,some 1004)::[(3,some 3)])))
 rintro ⟨x,⟨h1,h2,h3,h4,h5,h6⟩,h7,he⟩;(conv=>whnf);refine sO ?_;refine zdk k zz0 h4 (zw ?_);refine sD ?_;have hx:x.zbp[k]?.getD 0=x.zbp[k]:=by simp [h4]
 rw [hx] at h5 h6 h7;by_cases c3:x.zbp[k]<=n
 . rw [yvv h4 (by omega)] at he
   obtain ⟨k1,k2,k3,k4,k5,k6,k7⟩:=zxq x k;rw [hx] at k1;have hpas:pass x k=ygn (if (dlv x k (tag x.zbp[k]) true).2 then (dlv x k (tag x.zbp[k]) true).1 else zld (dlv x k (tag x.zbp[k]) true).1 k (tag x.zbp[k]) true) k:=by rw [pass,hx]
   obtain ⟨d1,d2,d3,d4,d5,d6,d7⟩:=zlc x k (tag x.zbp[k]) true;have hgt:(pass x k).zbp[k]?.getD 0=x.zbp[k]+1:=by rw [k1,zy27 h4];rfl
   have next:xfp (pass x k) k/\(pass x k).zbp[k]?.getD 0<=2 ^ 58/\turns (ybm (pass x k) k n) k=T:=⟨⟨by omega,by omega,by omega,by rw [k1,zy30];exact h4,by rw [hgt];omega,by rw [hgt];omega⟩,by rw [hgt];omega,he⟩
   have less:(n+1-(pass x k).zbp[k]?.getD 0).toNat<(n+1-x.zbp[k]?.getD 0).toNat:=by rw [hgt,hx];omega
   refine sT ?_;refine sO ?_;refine zdk k zz0 h4 (zw ?_)
   (refine cL ?_;refine dL (zcv _) ?_)
   refine sD ?_
   (refine zac [] [(1000,1000),(1001,900),(1002,901),(1003,902),(1004,903)] [(0,910),(1,911),(2,912),(3,913)] ?_;(conv=>whnf);refine dG (zlv x s.stream (tag x.zbp[k]) true zz0 zz0 zz0) ?_)
   rw [<- hk] at hpas d1 d2 d3 d4 d5 d6 d7;have hbm:∀ (y:Receiver) (z:Int),y.zbp=x.zbp->z=x.zbp[k]+1->zad.live (.row 3 1 ((ygn y k).zbp.map fun n=>[pi n]))=zad.live (.row 3 1 ((y.zbp.map fun n=>[pi n]).set s.stream.toNat [pi z])):=fun y z hy hz=>by
    refine zaq ?_;show (y.zbp.set k (y.zbp[k]?.getD 0+1)).map _=_;rw [hy,hx,zy107,hz,show s.stream.toNat=k by omega]
   generalize dlv x s.stream (tag x.zbp[k]) true=D at *
   obtain ⟨y,ok⟩:=D;dsimp only at d1 d2 d3 d4 d5 d6 d7 hpas;have h4y:k<y.zbp.length:=by rw [d1];exact h4
   have hyk:y.zbp[k]=x.zbp[k]:=by simp only [d1]
   cases ok with
   | true =>
    have hpas:pass x k=ygn y k:=hpas;(conv=>whnf)
    try refine sG ?_
    refine sO ?_;refine zdk k zz0 h4y (zw ?_);rw [hyk];refine sF ?_;refine sO ?_;refine zdk k zz0 h4y (zw ?_);refine sD ?_;rw [hpas] at next less;refine ⟨⟨_,next⟩,(zbu (pK5 ((3,some 3)::[(900,some 910),(901,some 911),(902,some 912),(903,some 913)])) (by repeat' (first | exact z0 | refine z1 ?_ | refine ⟨?_,?_⟩ | ((exact hbm y (x.zbp[k]+1) d1 rfl)) | ((exact (hbm y (x.zbp[k]+1) d1 rfl).symm)) | exact z2))),less⟩
   | false =>
    have hpas:pass x k=ygn (zld y s.stream (tag x.zbp[k]) true) k:=by rw [hpas,hk];rfl
    conv=>whnf
    try refine sG ?_
    (refine zac [] [(1000,1000),(1001,910),(1002,911),(1003,912),(1004,913)] [(0,920),(1,921),(2,922),(3,923)] ?_;(conv=>whnf);refine dG (zve y s.stream (tag x.zbp[k]) true zz0) ?_)
    have e1:(zld y s.stream (tag x.zbp[k]) true).zbp=x.zbp:=d1;generalize zld y s.stream (tag x.zbp[k]) true=w at hpas e1 ⊢;have h4w:k<w.zbp.length:=by rw [e1];exact h4
    have hwk:w.zbp[k]=x.zbp[k]:=by simp only [e1]
    refine sO ?_;refine zdk k zz0 h4w (zw ?_);rw [hwk];refine sF ?_;refine sO ?_;refine zdk k zz0 h4w (zw ?_);refine sD ?_;rw [hpas] at next less;refine ⟨⟨_,next⟩,(zbu (pK5 ((3,some 3)::[(900,some 920),(901,some 921),(902,some 922),(903,some 923)])) (by repeat' (first | exact z0 | refine z1 ?_ | refine ⟨?_,?_⟩ | ((exact hbm w (x.zbp[k]+1) e1 rfl)) | ((exact (hbm w (x.zbp[k]+1) e1 rfl).symm)) | exact z2))),less⟩
 . rw [yzt (by omega)] at he
   subst he;refine sN ?_
   (refine zac [] [(1000,1000),(1001,900),(1002,901),(1003,902),(1004,903)] [(0,910),(1,911),(2,912),(3,913)] ?_;(conv=>whnf);refine dG (zvl x k _ hk ⟨h1,h2,h3,h4,by omega,by omega⟩) ?_ ⟨rfl,rfl,rfl,⟨zz1,⟨zz1,⟨zz1,⟨zz1,⟨zz1,trivial⟩⟩⟩⟩⟩,⟨⟨rfl,rfl⟩,⟨⟨rfl,rfl⟩,⟨⟨rfl,rfl⟩,⟨⟨rfl,rfl⟩,trivial⟩⟩⟩⟩,rfl,rfl,rfl⟩)
   exact yy56
end Rcv
namespace Rcv
open Srt Jn Ser
theorem ydt {n:Nat}:∀ {S:List zay} {i:Nat} {b:List UInt8},zlm n i S=some b->b.length=tot S
 | [],_,_,h=>by rw [zlm] at h;cases h;rfl
 | p::r,i,b,h=>by
  rw [zlm] at h;split at h
  . obtain ⟨d,hd,rfl⟩:=zy29.1 h
    rw [zy6,zev,ydt hd]
  . cases h
theorem yxt {l:List zay} {b:List UInt8} (h:join l=some b):b.length=tot l:=by
 unfold join at h;split at h
 . cases h
 . rw [ydt h,ync zpf]
def yqd (l:List zcs):Nat:=(l.map fun a=>a.data.length).sum
theorem yls (a b:List zcs):yqd (a++b)=yqd a+yqd b:=by simp [yqd]
theorem yxy {l:List zcs} {a:zcs} (h:a∈l):a.data.length<=yqd l:=by
 obtain ⟨x,y,rfl⟩:=List.append_of_mem h;rw [yls];simp [yqd];omega
structure zsf (r r':Receiver) (d:Nat):Prop where
 len:r'.zbp.length=r.zbp.length
 cum:r'.cum=r.cum
 zau:r'.zau=r.zau
 config:r'.config=r.config
 pieces:r'.pieces.length<=r.pieces.length
 bytes:tot r'.pieces<=tot r.pieces
 log:r'.log.length+r'.pieces.length<=r.log.length+r.pieces.length
 mass:yqd r'.log+tot r'.pieces<=yqd r.log+tot r.pieces
 pre:r.log <+: r'.log
 lo:∀ L:Int,(∀ t∈r.zbp,L<t)->∀ t∈r'.zbp,L<t
 hi:∀ T:Int,(∀ t∈r.zbp,t+r.pieces.length<=T)->∀ t∈r'.zbp,t+r'.pieces.length<=T+d
theorem zsf.refl (r:Receiver):zsf r r 0:=⟨rfl,rfl,rfl,rfl,zy22 _,zy22 _,zy22 _,zy22 _,zy157 _,fun _ h=>h,fun T h t ht=>by have:=h t ht;omega⟩
theorem zsf.trans {a b c:Receiver} {d e:Nat} (h:zsf a b d) (k:zsf b c e):zsf a c (d+e):=by
 obtain ⟨a1,a2,a3,a4,a5,a6,a7,a8,a9,a10,a11⟩:=h;obtain ⟨b1,b2,b3,b4,b5,b6,b7,b8,b9,b10,b11⟩:=k;exact ⟨b1.trans a1,b2.trans a2,b3.trans a3,b4.trans a4,by omega,by omega,by omega,by omega,a9.trans b9,fun L h=>b10 L (a10 L h),fun T h t ht=>by have:=b11 (T+d) (a11 T h) t ht;omega⟩
theorem zsf.more {a b:Receiver} {d e:Nat} (h:zsf a b d) (k:d<=e):zsf a b e:={h with hi:=fun T ht t hm=>by have:=h.hi T ht t hm;omega}
theorem yyv {l:List zay} (f:zay->Bool):(l.filter fun p=>!f p).length+(l.filter f).length=l.length:=by
 induction l with
 | nil=>rfl
 | cons p l ih =>
  rw [zy58,zy58];cases f p<;>simp<;>omega
theorem ymc {l:List zay} (f:zay->Bool):tot (l.filter fun p=>!f p)+tot (l.filter f)=tot l:=by
 induction l with
 | nil=>rfl
 | cons p l ih =>
  rw [zy58,zy58];cases f p<;>simp [zev]<;>omega
theorem yck (r:Receiver) (s m:Int) (o:Bool):zsf r (zld r s m o) 0:=by
 have h1:=yyv (l:=r.pieces) (zeh s m o);have h2:=ymc (l:=r.pieces) (zeh s m o);refine ⟨rfl,rfl,rfl,rfl,?_,?_,?_,?_,zy157 _,fun _ h=>h,fun T h t ht=>?_⟩
 . show (r.pieces.filter fun p=>!zeh s m o p).length<=_;omega
 . show tot (r.pieces.filter fun p=>!zeh s m o p)<=_;omega
 . show _+(r.pieces.filter fun p=>!zeh s m o p).length<=_;show r.log.length+_<=_;omega
 . show _+tot (r.pieces.filter fun p=>!zeh s m o p)<=_;show yqd r.log+_<=_;omega
 . have:=h t ht
   show t+((r.pieces.filter fun p=>!zeh s m o p).length:Int)<=_;omega
theorem zza (r:Receiver) (s m:Int) (o:Bool):zsf r (dlv r s m o).1 0:=by
 obtain ⟨a1,a2,a3,a4,a5,a6,a7⟩:=zlc r s m o;refine ⟨by rw [a1],a2,a3,a4,a5,a6,a7,?_,?_,fun L h=>by rw [a1];exact h,fun T h t ht=>by rw [a1] at ht;have:=h t ht;omega⟩
 . unfold dlv
   split
   . exact zy22 _
   . rename_i b hj
     have h1:=yxt hj;have h2:=ymc (l:=r.pieces) (zeh s m o);show yqd (r.log++[_])+tot (r.pieces.filter fun p=>!zeh s m o p)<=_;rw [yls];simp only [yqd,zy24,zy80,zy100,zy149] at *
     omega
 . unfold dlv
   split
   . exact zy157 _
   . exact List.prefix_append _ _
theorem yiq {l:List Int} {k:Nat} {t:Int} (h:t∈l.set k (l[k]?.getD 0+1)):t∈l\/(t-1∈l):=by
 by_cases hk:k<l.length
 . rcases zy56 h with h | h
   . exact .inl h
   . right
     rw [h,zy3 hk];simp only [zy137];rw [show l[k]+1-1=l[k] by omega];exact zy83 hk
 . rw [List.set_eq_of_length_le (by omega)] at h
   exact .inl h
theorem ztl (r:Receiver) (k:Nat):zsf r (ygn r k) 1:=by
 refine ⟨by show (r.zbp.set k _).length=_;rw [zy30],rfl,rfl,rfl,zy22 _,zy22 _,zy22 _,zy22 _,zy157 _,fun L h t ht=>?_,fun T h t ht=>?_⟩
 . rcases yiq ht with h1 | h1
   . exact h t h1
   . have:=h _ h1;omega
 . show t+(r.pieces.length:Int)<=_
   rcases yiq ht with h1 | h1
   . have:=h t h1;omega
   . have:=h _ h1;omega
theorem ynm {r x:Receiver} (k:Nat) (h:zsf r x 0) (hl:x.pieces.length<r.pieces.length) (ht:x.zbp=r.zbp):zsf r (ygn x k) 0:=by
 have h1:=h.trans (ztl x k);refine {h1 with hi:=fun T hT t htm=>?_};show t+(x.pieces.length:Int)<=_;rcases yiq htm with h2 | h2
 . rw [ht] at h2;have:=hT t h2;omega
 . rw [ht] at h2;have:=hT _ h2;omega
theorem zqv:∀ (n:Nat) (r:Receiver) (k:Nat),r.pieces.length<n->zsf r (turns r k) 0
 | 0,r,k,h=>by omega
 | n+1,r,k,h=>by
  rw [zhm];have h1:=zza r k (tag (r.zbp[k]?.getD 0)) true;split
  . rename_i hd
    have h2:=zof hd;have h3:=ynm k h1 h2 (zlc r k (tag (r.zbp[k]?.getD 0)) true).1;exact h3.trans (zqv n _ k (by show (dlv r k (tag (r.zbp[k]?.getD 0)) true).1.pieces.length<n;omega))
  . exact h1
theorem ytu (r:Receiver) (k:Nat):zsf r (pass r k) 1:=by
 have h1:=zza r k (tag (r.zbp[k]?.getD 0)) true;unfold pass;split
 . exact h1.trans (ztl _ _)
 . exact (h1.trans (yck _ _ _ _)).trans (ztl _ _)
theorem zur:∀ (n:Nat) (r:Receiver) (k:Nat),zsf r (zxr n r k) n
 | 0,r,_=>zsf.refl r
 | n+1,r,k=>((ytu r k).trans (zur n _ k)).more zz0
theorem yfm (r:Receiver) (s:zga) (h:∀ t∈r.zbp,-(2 ^ 60)<t/\t<2 ^ 60):zsf r (zlt r s) 32769:=by
 unfold zlt;split
 . exact (zsf.refl r).more zz0
 split
 . exact (yck _ _ _ _).more zz0
 rename_i c _;have hk:s.stream.toNat<r.zbp.length:=by omega
 have hb:=h _ (zy83 hk);have hg:r.zbp[s.stream.toNat]?.getD 0=r.zbp[s.stream.toNat]:=by simp [hk]
 obtain ⟨n1,n2,n3⟩:=zlo (a:=r.zbp[s.stream.toNat]) (t:=s.mid) zz0 zz0;have h1:=zur (zdf r.zbp[s.stream.toNat] s.mid+1-r.zbp[s.stream.toNat]).toNat r s.stream.toNat;refine (zsf.trans (b:=ybm r s.stream.toNat (zdf (r.zbp[s.stream.toNat]?.getD 0) s.mid)) (d:=32769) (e:=0) ?_ (zqv _ _ _ (zy158 _)));unfold ybm;rw [hg];exact h1.more zz0
theorem ycr:∀ (l:List zga) (r:Receiver) (L T:Int),-(2 ^ 59)<=L->T+l.length*32769<2 ^ 59->(∀ t∈r.zbp,L<t)->(∀ t∈r.zbp,t+r.pieces.length<=T)->zsf r (l.foldl zlt r) (l.length*32769)
 | [],r,_,_,_,_,_,_=>(zsf.refl r).more zz0
 | s::l,r,L,T,h1,h2,h3,h4=>by
  rw [zy5] at h2;have g:=yfm r s fun t ht=>by have:=h3 t ht;have:=h4 t ht;omega
  have g2:=ycr l (zlt r s) L (T+32769) h1 zz0 (g.lo L h3) (g.hi T h4);rw [zy39,zy5];exact (g.trans g2).more zz0
def forward (r:Receiver) (c:Chunk):Receiver :=
 if ¬ c.kind=3\/zdf r.cum c.tag<=r.cum then r else c.zbw.foldl zlt {r with cum:=(up r.zau (zdf r.cum c.tag)).1,zau:=(up r.zau (zdf r.cum c.tag)).2}
structure zmc (N:Nat) (r:Receiver):Prop where
 log:r.log.length+r.pieces.length<=N
 mass:yqd r.log+tot r.pieces<=N
 many:r.zau.length<=N
 zky:zky r.zau
 zfj:∀ s∈r.zau,r.cum+1<s.lo
 his:∀ s∈r.zau,s.hi<=r.cum+32768
 cum1:-1<=r.cum
 cum2:r.cum<=100000+32768*N
 lo:∀ t∈r.zbp,-1<t
 hi:∀ t∈r.zbp,t+r.pieces.length<=32769*N
 streams:r.zbp.length<2 ^ 30
theorem zmc.more {N M:Nat} {r:Receiver} (h:zmc N r) (k:N<=M):zmc M r :=
 ⟨by have:=h.log;omega,by have:=h.mass;omega,by have:=h.many;omega,h.zky,h.zfj,h.his,h.cum1,by have:=h.cum2;omega,h.lo,fun t ht=>by have:=h.hi t ht;omega,h.streams⟩
theorem zmc.fit {N:Nat} {r:Receiver} (h:zmc N r) (hN:N<=2000000):Fit r:=by
 obtain ⟨h1,h2,h3,h4,h5,h6,h7,h8,h9,h10,h11⟩:=h;exact ⟨by omega,by omega,by omega,by omega,by omega,fun a ha=>by have:=yxy ha;omega⟩
theorem zmc.dfit {N:Nat} {r:Receiver} (h:zmc N r) (hN:N<=2000000) {c:Chunk} (hc:c.data.length<=2 ^ 20):xht r c:=by
 have hf:=h.fit hN;obtain ⟨h1,h2,h3,h4,h5,h6,h7,h8,h9,h10,h11⟩:=h;exact ⟨hf,h4,fun s hs=>by have:=h6 s hs;omega,by omega,by omega,fun t ht=>by have:=h9 t ht;have:=h10 t ht;omega,by omega,by omega,by omega⟩
theorem ybj:∀ {l:List Span} {n:Int} (_:Ser.zky l),n<=(up l n).1/\(up l n).2.length<=l.length/\Ser.zky (up l n).2/\(∀ s∈(up l n).2,s∈l)/\(∀ s∈(up l n).2,(up l n).1+1<s.lo)/\((up l n).1=n\/∃ s∈l,(up l n).1=s.hi)
 | [],n,_=>by simp [up,Ser.zky]
 | s::r,n,h=>by
  rw [up];split
  . rename_i c
    have ih:=ybj (l:=r) (n:=if s.hi>n then s.hi else n) h.2.2.2.2;have h1:n<=(if s.hi>n then s.hi else n):=by split<;>omega
    have h2:(if s.hi>n then s.hi else n)=n\/(if s.hi>n then s.hi else n)=s.hi:=by split<;>simp
    generalize (if s.hi>n then s.hi else n)=n' at *
    obtain ⟨i1,i2,i3,i4,i5,i6⟩:=ih;refine ⟨by omega,by simp;omega,i3,fun t ht=>by simp [i4 t ht],i5,?_⟩;rcases i6 with i6 | ⟨t,ht,e⟩
    . rcases h2 with h2 | h2
      . exact .inl (i6.trans h2)
      . exact .inr ⟨s,by simp,i6.trans h2⟩
    . exact .inr ⟨t,by simp [ht],e⟩
  . rename_i c
    refine ⟨zy99 _,zy22 _,h,fun t ht=>ht,fun t ht=>?_,.inl rfl⟩;have h0:=h.1;rcases zy18.1 ht with rfl | ht
    . omega
    . have:=h.2.2.2.1 t ht;omega
theorem zmc.goes {N d e:Nat} {r r':Receiver} (h:zmc N r) (g:zsf r r' d) (hd:d<=32769*e):zmc (N+e) r':=by
 obtain ⟨h1,h2,h3,h4,h5,h6,h7,h8,h9,h10,h11⟩:=h;obtain ⟨a1,a2,a3,a4,a5,a6,a7,a8,a9,a10,a11⟩:=g;exact ⟨by omega,by omega,by rw [a3];omega,by rw [a3];exact h4,by rw [a2,a3];exact h5,fun s hs=>by rw [a3] at hs;have:=h6 s hs;omega,by omega,by omega,a10 _ h9,fun t ht=>by have:=a11 _ h10 t ht;omega,by omega⟩
theorem zmc.put {N:Nat} {r:Receiver} (h:zmc N r) (hN:N<=2 ^ 21) {c:Chunk} (ht:ybs r c (zdf r.cum c.tag)):zmc (N+(c.data.length+1)) (put r c):=by
 obtain ⟨h1,h2,h3,h4,h5,h6,h7,h8,h9,h10,h11⟩:=h;obtain ⟨n1,n2,n3⟩:=zlo (a:=r.cum) (t:=c.tag) zz0 zz0;have ha:=ht.zfj;unfold Rcv.put;generalize zdf r.cum c.tag=n at *
 have hadd:=xae (n:=n) (M:=r.cum+32768) h4 zz0 zz0 (fun s hs=>by have:=h6 s hs;omega) zz0;have hal:=yji r.zau n;obtain ⟨u1,u2,u3,u4,u5,u6⟩:=ybj (n:=r.cum) (yjj h4 (n:=n) zz0 zz0).1;refine ⟨?_,?_,?_,u3,u5,fun s hs=>?_,?_,?_,h9,?_,h11⟩
 . simp only [zy6,zy57];omega
 . dsimp only
   rw [zvp,zev];have:tot []=0:=rfl;dsimp only;omega
 . dsimp only;omega
 . have:=hadd s (u4 s hs);dsimp only;omega
 . dsimp only;omega
 . dsimp only
   rcases u6 with u6 | ⟨s,hs,u6⟩
   . omega
   . have:=hadd s hs;omega
 . intro t htt
   have:=h10 t htt;simp only [zy6,zy57];omega
theorem ywo {N:Nat} {r:Receiver} (h:zmc N r) (hN:N<=2 ^ 21) (c:Chunk):zmc (N+(c.data.length+1)) (data r c):=by
 unfold data;split
 . rename_i ht
   have hp:=h.put hN ht;split
   . exact hp.goes (e:=0) (zqv _ _ _ (zy158 _)) (zy104 _)
   . exact hp.goes (e:=0) (zza _ _ _ _) (zy104 _)
 . exact h.more zz0
theorem yhf {N:Nat} {r:Receiver} (h:zmc N r) (hN:N<=2 ^ 21) (c:Chunk) (hc:c.zbw.length<=2 ^ 21):zmc (N+(c.zbw.length+1)) (forward r c):=by
 unfold forward;split
 . exact h.more zz0
 rename_i ht;obtain ⟨h1,h2,h3,h4,h5,h6,h7,h8,h9,h10,h11⟩:=h;obtain ⟨n1,n2,n3⟩:=zlo (a:=r.cum) (t:=c.tag) zz0 zz0;have ha:r.cum<zdf r.cum c.tag:=by
  apply Classical.byContradiction;intro hc;exact ht (.inr zz0)
 generalize zdf r.cum c.tag=n at *
 obtain ⟨u1,u2,u3,u4,u5,u6⟩:=ybj (n:=n) h4;have hw:zmc (N+1) {r with cum:=(up r.zau n).1,zau:=(up r.zau n).2}:=by
  exact yy32
 have g:=ycr c.zbw {r with cum:=(up r.zau n).1,zau:=(up r.zau n).2} (-1) (32769*N) zz0 zz0 h9 h10;exact (hw.goes (e:=c.zbw.length) g zz0).more zz0
theorem zlp {a t n:Int} (h1:-(2 ^ 61)<=a) (h2:a<=2 ^ 61) (h3:a-32767<=n) (h4:n<=a+32768) (h5:tag n=tag t):zdf a t=n:=by
 obtain ⟨n1,n2,n3⟩:=zlo (a:=a) (t:=t) h1 h2;rw [<- h5] at n3;unfold tag at n3;omega
end Rcv
namespace Rcv
open Srt Jn Ser
theorem zmc.skip {N:Nat} {r:Receiver} (h:zmc N r) (hN:N<=2 ^ 23) (s:zga):zmc (N+1) (zlt r s) :=
 h.goes (e:=1) (yfm r s fun t ht=>by have:=h.lo t ht;have:=h.hi t ht;omega) zz0
theorem zmc.sfit {N:Nat} {r:Receiver} (h:zmc N r) (hN:N<2 ^ 22):xio r:=by
 obtain ⟨h1,h2,h3,h4,h5,h6,h7,h8,h9,h10,h11⟩:=h;exact ⟨by omega,by omega,by omega,fun t ht=>by have:=h9 t ht;omega,fun t ht=>by have:=h10 t ht;omega⟩
def ywf (r:Receiver) (n:Int):Receiver:={r with cum:=(up r.zau n).1,zau:=(up r.zau n).2}
theorem zmc.up {N:Nat} {r:Receiver} (h:zmc N r) (_:N<=2 ^ 22) {n:Int} (n1:r.cum<n) (n2:n<=r.cum+32768):zmc (N+1) (ywf r n):=by
 obtain ⟨h1,h2,h3,h4,h5,h6,h7,h8,h9,h10,h11⟩:=h;obtain ⟨u1,u2,u3,u4,u5,u6⟩:=ybj (n:=n) h4;unfold ywf;exact yy32
theorem yfr (r:Receiver) (c:Chunk) {N:Nat} (h:zmc N r) (hN:N<=2000000) (hc:c.zbw.length<=2 ^ 20) :
 zao Tryz.prog 153 [r.hv,c.hv] zae (xho (forward r c) 0 1 2 3) (lk .free (yzb (forward r c) 0 1 2 3 [])):=by
 have hfit:=h.fit hN;have h6:=h.his;have h7:=h.cum1;have h8:=h.cum2;obtain ⟨n1,n2,n3⟩:=zlo (a:=r.cum) (t:=c.tag) zz0 zz0;generalize hD:forward r c=D;refine zan mixed Tryz.func153 zz5 [] (fun _=>.inl rfl) ?_;(conv=>whnf)
 (refine zas [(0,910),(1,911),(2,912),(3,913)]  ?_;(conv=>whnf);refine dO (zdb r hfit) ?_)
 (refine cL ?_;refine dL (zjv r.cum c.tag) ?_)
 by_cases c1:c.kind=3
 case neg =>
  obtain rfl:r=D:=by rw [<- hD,forward,zy1 (.inl c1)]
  refine zai zz51 ?_;conv=>whnf
  exact yy71
 refine zag (by simp [c1]) (zw ?_);by_cases c2:zdf r.cum c.tag<=r.cum
 . obtain rfl:r=D:=by rw [<- hD,forward,zy1 (.inr c2)]
   refine zai zz45 ?_;conv=>whnf
   exact yy71
 refine zag zz45 (zw ?_)
 try refine sG ?_
 have hw:=h.up zz0 (n:=zdf r.cum c.tag) zz0 zz0;have e:c.zbw.foldl zlt (ywf r (zdf r.cum c.tag))=D:=by rw [<- hD,forward,zy0 (by simp [c1];omega)];rfl
 (refine zas [(0,37)]  ?_;(conv=>whnf);refine dO (yvo r.zau (zdf r.cum c.tag) (fun s hs=>by have:=h6 s hs;omega) (by have:=hfit.zau;omega) zz0 zz0) ?_)
 refine ⟨{x:Receiver×List zga×List zga // c.zbw=x.2.1++x.2.2/\zmc (N+1+x.2.1.length) x.1/\x.2.2.foldl zlt x.1=D},fun | ⟨(x,a,b),_⟩=>hs 61 [(4,.ptr 4 0),(5,.ptr 12 0),(47,.p (.sl 3 (c.zbw.map zga.row))),(48,i64 c.zbw.length),(49,i64 a.length)] ((4,.live (.cells 37 xff))::(12,.live (.cells 225 (yzc x (.own 900) (.own 901) (.own 902) (.own 903))))::yzb x 900 901 902 903 []),fun x=>x.1.2.2.length,⟨(ywf r (zdf r.cum c.tag),[],c.zbw),rfl,hw,e⟩,?_,?_⟩
 . exact (zdx [(4,some 4),(12,some 12),(900,some 37),(901,some 911),(902,some 912),(903,some 913)])
 rintro ⟨⟨x,a,b⟩,h1,h2,h3⟩;dsimp only at h1 h2 h3;(conv=>whnf);cases b with
 | cons s b =>
  have hz:=zcf h1;refine sT ?_;refine zal h1 rfl (zw ?_)
  (refine zac [] [(1000,12),(1001,900),(1002,901),(1003,902),(1004,903)] [(0,910),(1,911),(2,912),(3,913)] ?_;(conv=>whnf);refine dG (zvk x s (h2.sfit zz0)) ?_)
  refine sF ?_;exact ⟨⟨(zlt x s,a++[s],b),zar h1,by have:=h2.skip zz0 s;simpa [zy102] using this,h3⟩,(zdx [(4,some 4),(12,some 12),(900,some 910),(901,some 911),(902,some 912),(903,some 913)]),by simp⟩
 | nil =>
  have hz:=zcw h1;have h3:x=D:=h3;subst h3;refine sN ?_
  (exact zby [(0,some 900),(1,some 901),(2,some 902),(3,some 903)])
end Rcv
namespace Rcv
open Srt Jn Ser
theorem yjx {r:Receiver} {s m:Int} {o:Bool} (h:(dlv r s m o).2=false):(dlv r s m o).1=r:=by
 unfold dlv at h ⊢;split
 . rfl
 . rename_i b hj;rw [hj] at h;cases h
end Rcv
namespace Rcv
open Srt Jn Ser
end Rcv
namespace Rcv
open Srt Jn Ser
end Rcv
namespace Rcv
open Srt Jn Ser
end Rcv
namespace Rcv
open Srt Jn Ser
def wt (c:Chunk):Nat:=c.data.length+c.zbw.length+1
def wts (l:List Chunk):Nat:=(l.map wt).sum
theorem yvw (a b:List Chunk):wts (a++b)=wts a+wts b:=by simp [wts]
theorem zpl (c:Chunk) (b:List Chunk):wts (c::b)=wt c+wts b:=by simp [wts]
end Rcv
namespace Rcv
open Srt Jn Ser
theorem zmc.cumB {N:Nat} {r:Receiver} (h:zmc N r) (hN:N<=2000000):-(2 ^ 60)<=r.cum/\r.cum<=2 ^ 60:=by
 have:=h.cum1;have:=h.cum2;omega
theorem zmc.spansB {N:Nat} {r:Receiver} (h:zmc N r) (hN:N<=2000000):∀ s∈r.zau,-(2 ^ 61)<=s.lo/\s.lo<=2 ^ 61/\-(2 ^ 61)<=s.hi/\s.hi<=2 ^ 61:=fun s hs=>by
 have h1:=h.zfj s hs;have h2:=h.his s hs;have h3:=h.cum1;have h4:=h.cum2;have h5:=(ziu h.zky s hs).1;omega
end Rcv
namespace Rcv
open Srt Jn Ser
theorem yve (c:Config) (h1:-9223372036854775808<c.first) (h2:c.first<=9223372036854775807) (h3:c.streams<=1099511627776):zao Tryz.prog 110 [c.hv] zae (ylu c).hv zae:=by
 refine zci Tryz.func110 (zpb c h1 h2 h3) ?_;(conv=>whnf)
 rfl
theorem ypb (r:Receiver) (c:Chunk) (hf:xht r c):zao Tryz.prog 152 [r.hv,c.hv] zae (data r c).hv zae:=by
 refine zci Tryz.func152 (yuy r c hf) ?_;generalize data r c=d;(conv=>whnf)
 rfl
theorem ybc (r:Receiver) (c:Chunk) {N:Nat} (h:zmc N r) (hN:N<=2000000) (hc:c.zbw.length<=2 ^ 20):zao Tryz.prog 153 [r.hv,c.hv] zae (forward r c).hv zae:=by
 refine zci Tryz.func153 (yfr r c h hN hc) ?_;generalize forward r c=d;(conv=>whnf)
 rfl
theorem ypl (r:Receiver) (h1:r.zau.length<2 ^ 40) (h2:r.pieces.length<2 ^ 40) (h3:tot r.pieces<2 ^ 60) (hc:-(2 ^ 60)<=r.cum) (hc2:r.cum<=2 ^ 60) (hsp:∀ s∈r.zau,-(2 ^ 61)<=s.lo/\s.lo<=2 ^ 61/\-(2 ^ 61)<=s.hi/\s.hi<=2 ^ 61) :
 zao Tryz.prog 154 [r.hv] zae (zmv r).hv zae:=by
 refine zci Tryz.func154 (yvh r h1 h2 h3 hc hc2 hsp) ?_;(conv=>whnf)
 rfl
theorem zvj (r:Receiver) (hr:Fit r):zao Tryz.prog 111 [r.hv] zae r.hv zae:=by
 refine zci Tryz.func111 (zdb r hr) ?_;(conv=>whnf)
 rfl
def xip:Config:=⟨2,4,60,1,1,5,7⟩
def a8:Chunk:=⟨1,8,0,1,0,true,true,[98],[],0,[]⟩
def a7:Chunk:=⟨1,7,0,0,0,true,true,[97],[],0,[]⟩
def r1:Receiver:=⟨xip,6,[⟨8,8⟩],[⟨8,a8⟩],[0,0],[]⟩
def r2:Receiver:=⟨xip,8,[],[],[2,0],[⟨0,0,true,[97]⟩,⟨0,1,true,[98]⟩]⟩
end Rcv
namespace Ln
open Ser
def xbc (w:List zbb) (p:zbb):List zbb:=if w.length<40 then w++[p] else w
def zqo (w ps:List zbb):List zbb:=ps.foldl xbc w
def zhc (back:Bool) (x:zdq×Bool) (c:Chunk):zdq×Bool :=
 if back then ({x.1 with sender:=Snd.zkc x.1.sender c},x.2) else
 if c.kind=1 then ({x.1 with receiver:=Rcv.data x.1.receiver c},true) else
 if c.kind=3 then ({x.1 with receiver:=Rcv.forward x.1.receiver c},true) else x
def told (path:Int) (l:zdq):zdq:=if (Pck.zde [Rcv.zmv l.receiver] 120).2=0 then {l with way:=zqo l.way [⟨path,true,(Pck.zde [Rcv.zmv l.receiver] 120).1⟩]} else l
def zio (l:zdq) (p:zbb):zdq×Bool:=(Pck.zgq p.bytes).1.foldl (zhc p.back) (l,false)
def zfw (l:zdq) (p:zbb):zdq :=
 if (Pck.zgq p.bytes).2≠0 then l else if (zio l p).2 then told p.path (zio l p).1 else (zio l p).1
def emit (l:zdq):zdq:={l with sender:=(Snd.zfl l.sender).1,way:=zqo l.way (Snd.zfl l.sender).2}
def doS (l:zdq) (x:Step):zdq×Answer :=
 if x.kind=1 then (if Snd.zey l.sender x.message=0 then (emit {l with sender:=Snd.zii l.sender x.message},⟨0,l.sender.fates.length⟩) else (l,⟨Snd.zey l.sender x.message,0⟩)) else
 if x.kind=2\/x.kind=3\/x.kind=4 then (if x.n<0 then (l,⟨6,0⟩) else match l.way[x.n.toNat]? with
  | none=>(l,⟨6,0⟩)
  | some p=>if x.kind=4 then (emit {l with way:=zqo l.way [p]},⟨0,0⟩) else
   (emit (if x.kind=2 then zfw {l with way:=l.way.eraseIdx x.n.toNat} p else {l with way:=l.way.eraseIdx x.n.toNat}),⟨0,0⟩)) else
 if x.kind=5 then (emit {l with sender:=Snd.tick l.sender},⟨0,0⟩) else (l,⟨1,0⟩)
def zpm (c:Config):zdq:=⟨Snd.yok c,Rcv.ylu c,[]⟩
def znd:zdq->List Step->zdq×List Answer
 | l,[]=>(l,[])
 | l,x::r=>((znd (doS l x).1 r).1,(doS l x).2::(znd (doS l x).1 r).2)
theorem yak:∀ (a:List Step) (l:zdq) (b:List Step),znd l (a++b)=((znd (znd l a).1 b).1,(znd l a).2++(znd (znd l a).1 b).2)
 | [],l,b=>rfl
 | x::a,l,b=>by
  have h:=yak a (doS l x).1 b;rw [zy38,znd,h];rfl
theorem ymf:∀ (a:List Step) (l:zdq),(znd l a).2.length=a.length
 | [],_=>rfl
 | x::a,l=>by rw [znd,zy5,ymf a];rfl
theorem yuc:∀ (ps w:List zbb),w.length<=40->(zqo w ps).length<=40
 | [],w,h=>h
 | p::ps,w,h=>by
  unfold zqo;rw [zy39];refine yuc ps _ ?_;unfold xbc;split
  . simp;omega
  . exact h
theorem yud:∀ (ps w:List zbb),∀ p∈zqo w ps,p∈w\/p∈ps
 | [],w,p,h=>.inl h
 | q::ps,w,p,h=>by
  unfold zqo at h;rw [zy39] at h;rcases yud ps _ p h with h | h
  . unfold xbc at h
    split at h
    . rcases zy17.1 h with h | h
      . exact .inl h
      . rw [zy23] at h;subst h;exact .inr zz4
    . exact .inl h
  . exact .inr (by simp [h])
theorem zxs (l:List Chunk) (most:Int) (h:0<=most):((Pck.zde l most).1.length:Int)<=most:=by
 unfold Pck.zde
 (repeat' split)<;>first | (simp;omega) | (dsimp only;omega)
theorem xbx (kind:Int) (b:List UInt8):(Chk.zei kind b).1.data.length+(Chk.zei kind b).1.zbw.length<=b.length/\(Chk.zei kind b).1.zau.length<=b.length:=by
 have h1:=Chk.zlu (b.drop 2);have h2:=Chk.zko (b.drop 4);have h3:(b.drop 2).length<=b.length:=by simp
 have h4:(b.drop 4).length<=b.length:=by simp
 unfold Chk.zei
 (repeat' split)<;>constructor<;>first | (simp [Chk.no];done) | (dsimp only [Chk.no];simp;omega) | (dsimp only [Chk.no];omega)
theorem yyu {b:List UInt8} (h:(Chk.parse b).2.2=0):Rcv.wt (Chk.parse b).1+1<=(Chk.parse b).2.1.toNat/\(Chk.parse b).2.1.toNat<=b.length/\(Chk.parse b).1.zau.length<=b.length:=by
 have h1:=xbx (b[0]?.getD 0).toNat ((b.drop 2).take (b[1]?.getD 0).toNat);have h2:((b.drop 2).take (b[1]?.getD 0).toNat).length<=(b[1]?.getD 0).toNat:=by simp;omega
 have h3:((b.drop 2).take (b[1]?.getD 0).toNat).length<=b.length:=by simp;omega
 unfold Chk.parse at h ⊢
 (repeat' split at h)<;>first | contradiction | skip
 . rename_i c1 c2 c3 c4
   rw [zy0 c1,zy0 c2,zy0 c3,zy0 c4];unfold Rcv.wt;dsimp only;refine ⟨by omega,by omega,by omega⟩
theorem yer:∀ (f:Nat) (b:List UInt8),Rcv.wts (Pck.zfy f b).1<=b.length/\∀ c∈(Pck.zfy f b).1,c.zau.length<=b.length/\Rcv.wt c<=b.length
 | 0,b=>by simp [Pck.zfy,Rcv.wts]
 | f+1,b=>by
  have ih:=yer f (b.drop (Chk.parse b).2.1.toNat);unfold Pck.zfy
  (repeat' split)<;>first | (simp [Rcv.wts];done) | skip
  rename_i c1 c2 c3;have hp:=yyu (Decidable.not_not.1 c2);rw [zy34] at ih;refine ⟨?_,fun c hc=>?_⟩
  . dsimp only
    rw [Rcv.zpl];omega
  . rcases zy18.1 hc with rfl | hc
    . exact ⟨hp.2.2,by omega⟩
    . have:=ih.2 c hc;omega
theorem yev (b:List UInt8):Rcv.wts (Pck.zgq b).1<=b.length/\∀ c∈(Pck.zgq b).1,c.zau.length<=b.length/\Rcv.wt c<=b.length:=by
 unfold Pck.zgq;split
 . simp [Rcv.wts]
 . exact yer _ _
theorem ytq {most path:Int} {l:List Chunk} (h0:0<=most):∀ p∈Snd.zmt most path l,(p.bytes.length:Int)<=most/\p.back=false:=by
 intro p hp;unfold Snd.zmt at hp;split at hp
 . rw [zy23] at hp;subst hp;exact ⟨zxs _ _ h0,rfl⟩
 . simp at hp
theorem yeo {most path:Int} (h0:0<=most):∀ (n:Nat) (l:List Chunk),∀ p∈Snd.zgm most path n l,(p.bytes.length:Int)<=most/\p.back=false
 | 0,l,p,hp=>by simp [Snd.zgm] at hp
 | n+1,l,p,hp=>by
  unfold Snd.zgm at hp;split at hp
  . simp at hp
  . rcases zy17.1 hp with hp | hp
    . exact ytq h0 p hp
    . exact yeo h0 n _ p hp
theorem zrn {most:Int} (h0:0<=most):∀ (ls:List (List Chunk)) (k:Nat),∀ p∈Snd.zbx most k ls,(p.bytes.length:Int)<=most/\p.back=false
 | [],k,p,hp=>by simp [Snd.zbx] at hp
 | l::ls,k,p,hp=>by
  unfold Snd.zbx at hp;rcases zy17.1 hp with hp | hp
  . exact yeo h0 _ _ p hp
  . exact zrn h0 ls _ p hp
structure LI (N M:Nat) (l:zdq):Prop where
 snd:Snd.SI N l.sender
 rcv:Rcv.zmc M l.receiver
 small:M<=2000000
 way:l.way.length<=40
 bytes:∀ p∈l.way,p.bytes.length<=120
section
variable {N M:Nat} {l:zdq}
theorem LI.more (h:LI N M l) {M':Nat} (h1:M<=M') (h2:M'<=2000000):LI N M' l:=⟨h.snd,h.rcv.more h1,h2,h.way,h.bytes⟩
theorem ykv {back:Bool} {x:zdq×Bool} {c:Chunk} (h:LI N M x.1) (hM:M+Rcv.wt c<=2000000):LI N (M+Rcv.wt c) (zhc back x c).1:=by
 have hw:Rcv.wt c=c.data.length+c.zbw.length+1:=rfl;unfold zhc;split
 . exact ⟨Snd.yrt h.snd c,h.rcv.more zz0,hM,h.way,h.bytes⟩
 split
 . exact ⟨h.snd,(Rcv.ywo h.rcv zz0 c).more zz0,hM,h.way,h.bytes⟩
 split
 . exact ⟨h.snd,(Rcv.yhf h.rcv zz0 c zz0).more zz0,hM,h.way,h.bytes⟩
 . exact h.more zz0 hM
theorem ykw {back:Bool}:∀ (cs:List Chunk) {M:Nat} {x:zdq×Bool},LI N M x.1->M+Rcv.wts cs<=2000000->LI N (M+Rcv.wts cs) (cs.foldl (zhc back) x).1
 | [],M,x,h,_=>h
 | c::cs,M,x,h,hM=>by
  rw [Rcv.zpl] at hM ⊢;have:=ykw (back:=back) cs (ykv (back:=back) (c:=c) h zz0) zz0;rw [<- zy102];exact this
theorem ymh (h:LI N M l) {ps:List zbb} (hp:∀ p∈ps,p.bytes.length<=120):LI N M {l with way:=zqo l.way ps} :=
 ⟨h.snd,h.rcv,h.small,yuc ps _ h.way,fun p hq=>by rcases yud ps _ p hq with hq | hq;exact h.bytes p hq;exact hp p hq⟩
theorem xey (h:LI N M l) (path:Int):LI N M (told path l):=by
 unfold told;split
 . refine ymh h fun p hp=>?_
   rw [zy23] at hp;subst hp;have:=zxs [Rcv.zmv l.receiver] 120 zz5;dsimp only;omega
 . exact h
theorem ygx (h:LI N M l) {p:zbb} (hp:p.bytes.length<=120) (hM:M+120<=2000000):LI N (M+120) (zfw l p):=by
 have hw:=(yev p.bytes).1;have h2:LI N (M+120) (zio l p).1:=(ykw (back:=p.back) (Pck.zgq p.bytes).1 (x:=(l,false)) h zz0).more zz0 hM;unfold zfw;split
 . exact h.more zz0 hM
 split
 . exact xey h2 _
 . exact h2
theorem zzb (h:LI N M l):LI N M (emit l):=by
 have hw:=Snd.zcn h.snd.cfg;have hc:=Snd.yyy h.snd;have h2:LI N M {l with sender:=(Snd.zfl l.sender).1}:=⟨Snd.yub h.snd,h.rcv,h.small,h.way,h.bytes⟩
 refine ymh h2 fun p hp=>?_
 have:=(zrn zz0 _ _ p hp).1;omega
theorem zts (h:LI N M l) (x:Step) (hN:N+1<=2 ^ 20) (hM:M+120<=2000000):LI (N+1) (M+120) (doS l x).1:=by
 have h0:LI (N+1) (M+120) l:=⟨h.snd.mono zz0 hN,h.rcv.more zz0,hM,h.way,h.bytes⟩
 unfold doS;split
 . split
   . rename_i e
     exact zzb (l:={l with sender:=Snd.zii l.sender x.message}) ⟨Snd.yas h.snd e hN,h0.rcv,hM,h.way,h.bytes⟩
   . exact h0
 split
 . split
   . exact h0
   split
   . exact h0
   rename_i p hp;have hb:=h.bytes p (zy12 hp);have he:∀ {N M:Nat},LI N M l->LI N M {l with way:=l.way.eraseIdx x.n.toNat}:=fun h =>
    ⟨h.snd,h.rcv,h.small,by show (l.way.eraseIdx _).length<=40;have:=h.way;rw [zy106];split<;>omega,fun q hq=>h.bytes q (zy73 hq)⟩
   split
   . refine zzb (ymh h0 fun q hq=>?_)
     rw [zy23] at hq;subst hq;exact hb
   . refine zzb ?_
     split
     . exact ygx (he ⟨h.snd.mono zz0 hN,h.rcv,h.small,h.way,h.bytes⟩) hb hM
     . exact he h0
 split
 . exact zzb (l:={l with sender:=Snd.tick l.sender}) ⟨Snd.ybh h0.snd,h0.rcv,hM,h.way,h.bytes⟩
 . exact h0
theorem ymg:∀ (a:List Step) {N M:Nat} {l:zdq},LI N M l->N+a.length<=2 ^ 20->M+120*a.length<=2000000->LI (N+a.length) (M+120*a.length) (znd l a).1
 | [],N,M,l,h,_,_=>h
 | x::a,N,M,l,h,h1,h2=>by
  simp only [zy5] at h1 h2 ⊢;have:=ymg a (zts h x zz0 zz0) zz0 zz0;rw [show N+(a.length+1)=N+1+a.length by omega,show M+120*(a.length+1)=M+120+120*a.length by omega];exact this
end
theorem yig {c:Config} (h:Snd.zmw c=0):LI 0 0 (zpm c):=by
 have hw:=Snd.zcn h;have hl:(Rcv.ylu c).zbp.length<=4:=by simp [Rcv.ylu];omega
 have ht:∀ t∈(Rcv.ylu c).zbp,t=0:=fun t ht=>(zy147.1 ht).2
 exact ⟨Snd.xau h,⟨zy22 _,zy22 _,zy22 _,trivial,by simp [zpm,Rcv.ylu],by simp [zpm,Rcv.ylu],by show -1<=c.first-1;omega,by show c.first-1<=_;omega,fun t htt=>by rw [ht t htt];decide,fun t htt=>by rw [ht t htt];simp [zpm,Rcv.ylu],by show (Rcv.ylu c).zbp.length<_;omega⟩,by decide,by simp [zpm],by simp [zpm]⟩
end Ln
namespace Ln
open Ser
abbrev zjq (l:List zbb):zad:=.live (.row 110 3 (l.map zbb.row))
abbrev pks (l:List zbb):HV:=.p (.sl 3 (l.map zbb.row))
def lnC (s:zab) (r:Receiver) (w:HV):List HV:=[i64 s.config.streams,i64 s.config.part,i64 s.config.packet,i64 s.config.paths,i64 s.config.turns,i64 s.config.waiting,i64 s.config.first,i64 s.clock,Sch.qs s.queue,i64 s.sched.last,i64 s.sched.hand,ints s.sched.had,Sco.zsd s.out,Snd.xhm s.paths,i64 s.cum,i64 s.next,i64 s.room,ints s.mids,ints s.fates,zbk s.forward,i64 s.recover,
 i64 r.config.streams,i64 r.config.part,i64 r.config.packet,i64 r.config.paths,i64 r.config.turns,i64 r.config.waiting,i64 r.config.first,i64 r.cum,.p (.sl 2 (r.zau.map Span.row)),.p (.sl 12 (r.pieces.map zay.row)),ints r.zbp,.p (.sl 4 (r.log.map zcs.row)),w]
abbrev lnB (s:zab) (r:Receiver) (w:HV):zad:=.live (.cells 40 (lnC s r w))
theorem ymx (ps:List zbb) (h1:ps.length<2 ^ 22) (h2:∀ p∈ps,p.bytes.length<2 ^ 38):zao Tryz.prog 112 [pks ps] zae (.own 0) (lk .free [(0,zjq ps)]):=by
 refine zan mixed Tryz.func112 zz5 [] (fun _=>.inl rfl) ?_;(conv=>whnf);refine ⟨{x:List zbb×List zbb // ps=x.1++x.2},fun | ⟨(A,B),_⟩=>hs 22 [(3,.own 900),(6,pks ps),(7,i64 ps.length),(8,i64 A.length)] [(900,zjq A)],fun x=>x.1.2.length,⟨([],ps),rfl⟩,?_,?_⟩
 . exact (zdx [(900,none)])
 rintro ⟨⟨A,B⟩,h⟩;dsimp only at h;(conv=>whnf);cases B with
 | cons p B =>
  have hz:=zcf h;have hp:=h2 p (zks h);refine sT ?_;refine zal h rfl (zw ?_)
  (refine zas [(0,14)]  ?_;(conv=>whnf);refine dO (Cl.zct p.bytes zz0) ?_)
  refine zaa (c:=((A.map zbb.row).length+1)*40<=140737488355328) zz3 (zw ?_);refine sF ?_;exact ⟨⟨(A++[p],B),zar h⟩,(zcr [(900,some 19)] (by repeat' (first | exact z0 | refine z1 ?_ | refine ⟨?_,?_⟩ | ((exact zca (f:=zbb.row) rfl rfl)) | exact z2))),by simp⟩
 | nil =>
  have hz:=zcw h;rw [zy8] at h;refine sN ?_;exact zam [(0,some 900)] rfl rfl trivial rfl rfl ⟨⟨rfl,.inl ⟨900,rfl,by exact zaq (by rw [h])⟩⟩,trivial⟩
theorem yfz (l:zdq) (h1:Snd.Fit l.sender) (h2:Rcv.Fit l.receiver) (h3:l.way.length<2 ^ 22) (h4:∀ p∈l.way,p.bytes.length<2 ^ 38):zao Tryz.prog 55 [l.hv] zae (.agg (lnC l.sender l.receiver (.own 0))) (lk .free [(0,zjq l.way)]):=by
 refine zan mixed Tryz.func55 zz5 [] (fun _=>.inl rfl) ?_;(conv=>whnf)
 (refine cP ?_;refine dL (Snd.zvj l.sender h1) ?_)
 (refine cP ?_;refine dL (Rcv.zvj l.receiver h2) ?_)
 (refine zas [(0,20)]  ?_;(conv=>whnf);refine dO (ymx l.way h3 h4) ?_)
 refine sD ?_;exact yy11
theorem ymi (w A:List zbb) (p:zbb):zqo w (A++[p])=xbc (zqo w A) p:=by simp [zqo]
theorem zkq (s:zab) (r:Receiver) (w ps:List zbb) (h1:ps.length<2 ^ 62):zao Tryz.prog 116 [.ptr 1000 0,pks ps] (lk .free [(1000,lnB s r (.own 1001)),(1001,zjq w)]) (.tup []) (lk .free [(1000,lnB s r (.own 0)),(0,zjq (zqo w ps)),(1001,.dead)]):=by
 refine zan mixed Tryz.func116 zz5 [1000,1001] zbi ?_;(conv=>whnf);refine ⟨{x:List zbb×List zbb // ps=x.1++x.2},fun | ⟨(A,B),_⟩=>hsP [1000,1001] 29 [(0,.ptr 1000 0),(6,pks ps),(7,i64 ps.length),(8,i64 A.length)] [(1000,lnB s r (.own 900)),(900,zjq (zqo w A)),(1001,.dead)],fun x=>x.1.2.length,⟨([],ps),rfl⟩,?_,?_⟩
 . exact (zcx [(1000,some 1000),(1001,some 1001),(900,some 1001)])
 rintro ⟨⟨A,B⟩,h⟩;dsimp only at h;(conv=>whnf);cases B with
 | cons p B =>
  have hz:=zcf h;refine sT ?_;refine zal h rfl (zw ?_);by_cases c:(zqo w A).length<40
  case pos =>
   refine sT ?_;refine zaa (c:=(((zqo w A).map zbb.row).length+1)*40<=140737488355328) zz3 (zw ?_);refine sD ?_;refine sF ?_;exact ⟨⟨(A++[p],B),zar h⟩,(zbu [(1000,some 1000),(1001,some 1001),(900,some 25)] (by repeat' (first | exact z0 | refine z1 ?_ | refine ⟨?_,?_⟩ | ((exact zca (f:=zbb.row) (by rw [ymi,xbc,zy1 c]) rfl)) | exact z2))),by simp⟩
  case neg =>
   refine sN ?_;refine sF ?_;exact ⟨⟨(A++[p],B),zar h⟩,(zbu [(1000,some 1000),(1001,some 1001),(900,some 900)] (by repeat' (first | exact z0 | refine z1 ?_ | refine ⟨?_,?_⟩ | ((exact zaq (by rw [ymi,xbc,zy0 c]))) | exact z2))),by simp⟩
 | nil =>
  have hz:=zcw h;rw [zy8] at h;refine sN ?_
  (exact zdc [(1000,some 1000),(1001,some 1001),(0,some 900)] zz48)
end Ln
namespace Ln
open Ser
theorem yrs (back:Bool) (x:zdq×Bool) (c:Chunk):(zhc back x c).1.way=x.1.way:=by
 unfold zhc;(repeat' split)<;>rfl
theorem yvx:∀ cs:List Chunk,cs.length<=Rcv.wts cs
 | []=>by simp [Rcv.wts]
 | c::cs=>by
  have:=yvx cs;rw [Rcv.zpl,zy5];unfold Rcv.wt;omega
theorem yjd (r:Receiver):Pck.zgb [Rcv.zmv r]:=⟨by simp,fun c hc=>by
 rw [zy23] at hc;subst hc;exact ⟨by simp [Rcv.zmv];omega,by simp [Rcv.zmv]⟩⟩
theorem ypd {N M:Nat} (l:zdq) (p:zbb) (h:LI N M l) (hM:M+120<=2000000) (hp:p.bytes.length<=120):zao Tryz.prog 118 [.ptr 1000 0,p.hv] (lk .free [(1000,lnB l.sender l.receiver (.own 1001)),(1001,zjq l.way)]) (.tup [])
 (lk .free [(1000,lnB (zfw l p).sender (zfw l p).receiver (.own 0)),(0,zjq (zfw l p).way),(1001,.dead)]):=by
 obtain ⟨path,back,bytes⟩:=p;dsimp only at hp;generalize hT:zfw l ⟨path,back,bytes⟩=T;refine zan mixed Tryz.func118 zz5 [1000,1001] zbi ?_;(conv=>whnf);have hw:=yev bytes
 (refine cP ?_;refine dL (Pck.yix bytes zz0) ?_)
 rw [zfw] at hT;dsimp only at hT;have hall:zio l ⟨path,back,bytes⟩=(Pck.zgq bytes).1.foldl (zhc back) (l,false):=rfl;generalize Pck.zgq bytes=K at hT hw hall ⊢;obtain ⟨cs,e⟩:=K;dsimp only at hT hw hall;by_cases c1:e=0
 case neg =>
  rw [zy1 c1] at hT;subst hT;rw [show (e != 0)=true from zy128.2 c1];(conv=>whnf)
  (exact zby [(1000,some 1000),(1001,some 1001),(0,some 1001)])
 case pos =>
 subst c1;rw [zy0 (fun h=>h rfl)] at hT;(conv=>whnf)
 repeat refine sG ?_
 refine ⟨{x:(zdq×Bool)×List Chunk×List Chunk // cs=x.2.1++x.2.2/\x.2.1.foldl (zhc back) (l,false)=x.1/\LI N (M+Rcv.wts x.2.1) x.1.1/\x.1.1.way=l.way},fun | ⟨((y,told),A,B),_⟩=>hsP [1000,1001] 85 [(0,.ptr 1000 0),(3,.ptr 3 0),(6,zbk told),(19,.p (.sl 11 (cs.map Chunk.row))),(20,i64 cs.length),(21,i64 A.length)] [(1000,lnB y.sender y.receiver (.own 1001)),(1001,zjq l.way),(3,.live (.cells 110 (⟨path,back,bytes⟩:zbb).cells))],fun x=>x.1.2.2.length,⟨((l,false),[],cs),rfl,rfl,h,rfl⟩,?_,?_⟩
 . exact (zcx [(1000,some 1000),(1001,some 1001),(3,some 3)])
 rintro ⟨⟨⟨y,told⟩,A,B⟩,k1,k2,k3,k4⟩;dsimp only at k1 k2 k3 k4;(conv=>whnf);cases B with
 | cons c B =>
  have hz:=zcf k1;obtain ⟨w1,w2⟩:=hw;have hcl:=yvx cs;have hc:=w2 c (zks k1);have hsum:Rcv.wts cs=Rcv.wts A+(Rcv.wt c+Rcv.wts B):=by rw [k1,Rcv.yvw,Rcv.zpl]
  have hwt:Rcv.wt c=c.data.length+c.zbw.length+1:=rfl;have hnx:(A++[c]).foldl (zhc back) (l,false)=zhc back (y,told) c:=by rw [zy77,k2];rfl
  have hli:=ykv (back:=back) (x:=(y,told)) (c:=c) k3 zz0;have hwy:=(yrs back (y,told) c).trans k4;rw [show M+Rcv.wts A+Rcv.wt c=M+Rcv.wts (A++[c]) by rw [Rcv.yvw,Rcv.zpl];simp [Rcv.wts];omega] at hli;have hfit:=k3.rcv.fit zz0;refine sT ?_;refine zal k1 rfl (zw ?_)
  repeat refine sG ?_
  cases back with
  | true =>
   conv=>whnf
   (refine cP ?_;refine dL (Snd.yva y.sender c k3.snd.fit k3.snd.right zz0) ?_)
   refine sD ?_
   repeat refine sG ?_
   refine sF ?_;exact ⟨⟨(zhc true (y,told) c,A++[c],B),zar k1,hnx,hli,hwy⟩,(zcx [(1000,some 1000),(1001,some 1001),(3,some 3)]),by simp⟩
  | false =>
   conv=>whnf
   repeat refine sG ?_
   by_cases d1:c.kind=1
   case pos =>
    have e1:zhc false (y,told) c=({y with receiver:=Rcv.data y.receiver c},true):=by unfold zhc;rw [zy0 (by decide),zy1 d1]
    rw [e1] at hnx hli hwy;rw [show (c.kind==1)=true from zy41.2 d1];(conv=>whnf)
    (refine cP ?_;refine dL (Rcv.ypb y.receiver c (k3.rcv.dfit zz0 zz0)) ?_)
    refine sD ?_
    repeat refine sG ?_
    refine sF ?_;exact ⟨⟨(({y with receiver:=Rcv.data y.receiver c},true),A++[c],B),zar k1,hnx,hli,hwy⟩,(zcx [(1000,some 1000),(1001,some 1001),(3,some 3)]),by simp⟩
   case neg =>
    rw [show (c.kind==1)=false from zy20.2 d1];(conv=>whnf)
    repeat refine sG ?_
    by_cases d2:c.kind=3
    case pos =>
     have e1:zhc false (y,told) c=({y with receiver:=Rcv.forward y.receiver c},true):=by unfold zhc;rw [zy0 (by decide),zy0 d1,zy1 d2]
     rw [e1] at hnx hli hwy;rw [show (c.kind==3)=true from zy41.2 d2];(conv=>whnf)
     (refine cP ?_;refine dL (Rcv.ybc y.receiver c k3.rcv zz0 zz0) ?_)
     refine sD ?_
     repeat refine sG ?_
     refine sF ?_;exact ⟨⟨(({y with receiver:=Rcv.forward y.receiver c},true),A++[c],B),zar k1,hnx,hli,hwy⟩,(zcx [(1000,some 1000),(1001,some 1001),(3,some 3)]),by simp⟩
    case neg =>
     have e1:zhc false (y,told) c=(y,told):=by unfold zhc;rw [zy0 (by decide),zy0 d1,zy0 d2]
     rw [e1] at hnx hli hwy;rw [show (c.kind==3)=false from zy20.2 d2];(conv=>whnf)
     repeat refine sG ?_
     refine sF ?_;exact ⟨⟨((y,told),A++[c],B),zar k1,hnx,hli,hwy⟩,(zcx [(1000,some 1000),(1001,some 1001),(3,some 3)]),by simp⟩
 | nil =>
  have hz:=zcw k1;rw [zy8] at k1;rw [<- k1] at k2 k3;rw [hall,k2] at hT;dsimp only at hT;obtain ⟨w1,w2⟩:=hw;have hfit:=k3.rcv.fit zz0;refine sN ?_;cases told with
  | false =>
   rw [zy0 (by decide)] at hT;subst hT;(conv=>whnf)
   (exact zdc [(1000,some 1000),(1001,some 1001),(0,some 1001)] zz30)
  | true =>
   rw [zy1 rfl] at hT;(conv=>whnf)
   repeat refine sG ?_
   have hcb:=k3.rcv.cumB zz0
   (refine cP ?_;refine dL (Rcv.ypl y.receiver (by have:=hfit.zau;omega) (by have:=hfit.pieces;omega) (by have:=hfit.bytes;omega) hcb.1 hcb.2 (k3.rcv.spansB zz0)) ?_)
   (refine cP ?_;refine dL (Pck.zfv [Rcv.zmv y.receiver] 120 (yjd _)) ?_)
   unfold Ln.told at hT;generalize Pck.zde [Rcv.zmv y.receiver] 120=K2 at hT ⊢;obtain ⟨b,e⟩:=K2;dsimp only at hT;by_cases c3:e=0
   case pos =>
    rw [zy1 c3] at hT;subst hT c3;(conv=>whnf)
    (refine zac [false,true] [(1000,1000),(1001,1001)] [(0,940)] ?_;(conv=>whnf);refine dG (zkq y.sender y.receiver l.way [⟨path,true,b⟩] zz4) ?_)
    (exact zdc [(1000,some 1000),(1001,some 1001),(0,some 940)] zz30)
   case neg =>
    rw [zy0 c3] at hT;subst hT;rw [show (e==0)=false from zy20.2 c3];(conv=>whnf)
    (exact zdc [(1000,some 1000),(1001,some 1001),(0,some 1001)] zz30)
end Ln
namespace Ln
open Ser
end Ln
namespace Snd
open Ser
def SL (s:zab):Prop:=0<=s.sched.last/\s.sched.last<s.sched.had.length
theorem yrm {s:zab} {id:Int} (h:SL s):SL (zfn s id):=by
 have e:(zfn s id).sched=if s.sched.hand=id then {s.sched with hand:=-1} else s.sched:=rfl
 unfold SL;rw [e];split<;>exact h
theorem xco {s:zab} {m:zaf} (h:SL s):SL (zkx s m):=by unfold zkx;split;exact yrm h;exact h
theorem xcr {s:zab} {m:zbr} (h:SL s):SL (zid s m):=by unfold zid;split;exact yrm h;exact h
theorem ykj:∀ (q:List zaf) {s:zab},SL s->SL (q.foldl zkx s)
 | [],_,h=>h
 | _::q,_,h=>ykj q (xco h)
theorem ykm:∀ (q:List zbr) {s:zab},SL s->SL (q.foldl zid s)
 | [],_,h=>h
 | _::q,_,h=>ykm q (xcr h)
theorem yqz {s:zab} (h:SL s):SL (expire s):=ykm _ (ykj _ h)
theorem ycq (p:zgj) (i path:Nat):(fly p i path).s.sched=p.s.sched:=by unfold fly;split<;>rfl
theorem zzf (p:zgj):(forward p).s.sched=p.s.sched:=by unfold forward;split<;>rfl
theorem ytb {p q:zgj} (h:next p=some q):(p.s.out.length:Int)<60/\∃ (k:Nat) (m:zaf),p.s.queue[k]?=some m/\q=yih p k m (many p.s m):=by
 unfold next at h;by_cases c1:zdi p.s<0\/opened p.s (choose p.s)=false\/(p.s.out.length:Int)>=60
 . rw [zy1 c1] at h;cases h
 rw [zy0 c1] at h;refine ⟨by omega,(zdi p.s).toNat,?_⟩;cases hm:p.s.queue[(zdi p.s).toNat]? with
 | none=>rw [hm] at h;cases h
 | some m =>
  rw [hm] at h;dsimp only at h;split at h
  . cases h
  . cases h;exact ⟨m,rfl,rfl⟩
theorem xdu {N:Nat} {p q:zgj} (hS:SI N p.s) (h:next p=some q):SL q.s:=by
 obtain ⟨-,k,m,hm,rfl⟩:=ytb h;have hq:=hS.queue m (zy12 hm);have hn:=hS.nhad;have h0:=hq.st0;have h1:=hq.st1;obtain ⟨ps,po⟩:=p;unfold SL;rw [zlq,ycq];show 0<=m.message.stream/\m.message.stream<((Sch.had ps.sched _ _ _).had.length:Int);rw [yro];dsimp only at hn h1;omega
end Snd
namespace Snd
open Ser
end Snd
namespace Snd
open Ser
end Snd
namespace Snd
open Ser
end Snd
namespace Snd
open Ser
theorem PF.down {j i:Nat} {s:zab} (h:PF (j+i) s):PF j s:=⟨h.g,h.some,h.part,h.part2,h.msg,h.chunk,zy150 (Nat.add_le_add_left (zy69 _ (Nat.le_add_right j i)) _) h.bytes,h.few⟩
theorem PO.down {g:Config} {j i n k:Nat} {p:zgj} (h:PO g (j+i) n k p):PO g j n k p:=⟨h.pf.down,h.paths,h.outs,h.config,h.most⟩
theorem ylw:∀ (i:Nat) {g:Config} {j n k:Nat} {p:zgj},PO g (j+i) n k p->PO g j n (k+i) (zgl i p)
 | 0,_,_,_,_,_,h=>h
 | i+1,g,j,n,k,p,h=>by
  unfold zgl;rcases yii (j:=j+i) h with ⟨-,e⟩ | ⟨q,-,e,-,-,h2⟩
  . rw [e];exact h.down.mono zz0
  . rw [e]
    have:=ylw i h2;exact this.mono zz0
theorem yep (most path:Int):∀ (n:Nat) (l:List Chunk),(zgm most path n l).length<=n
 | 0,l=>by simp [zgm]
 | n+1,l=>by
  have:=yep most path n (l.drop (zce most l).toNat);have h1:(zmt most path l).length<=1:=by unfold zmt;split<;>simp
  unfold zgm;split
  . simp
  . rw [zy6];omega
theorem zro (most:Int) {k:Nat}:∀ (ls:List (List Chunk)) (i:Nat),(∀ l∈ls,l.length<=k)->(zbx most i ls).length<=k*ls.length
 | [],i,_=>by simp [zbx]
 | l::ls,i,h=>by
  have h1:=yep most i l.length l;have h2:=zro most ls (i+1) fun x hx=>h x zz38
  have h3:=h l zz4;unfold zbx;rw [zy6,zy5,Nat.mul_add];omega
theorem zor {N:Nat} {s:zab} (h:SI N s):(zfl s).2.length<2 ^ 62:=by
 have e1:=zyn (zmf (zog h.pf));have e2:=ylw (j:=1) 61 e1;have h1:=(zmf (zog h.pf)).pf.few;have h2:=h.npaths;have h3:=zcn h.cfg;have h4:=zro s.config.packet (zhy s).out 0 fun l hl=>(e2.most l hl).1
 have h5:(zhy s).out.length=s.paths.length:=e2.outs;rw [h5] at h4;have h6:s.paths.length<=2:=by omega
 show (zbx s.config.packet 0 (zhy s).out).length<_;refine zy150 h4 (zy150 (Nat.mul_le_mul_left _ h6) ?_);omega
end Snd
namespace Ln
open Ser
def noR:Receiver:=⟨⟨0,0,0,0,0,0,0⟩,0,[],[],[],[]⟩
def noL:zdq:=⟨Snd.noS,noR,[]⟩
def yif (c:Config):zdq×Int:=if Snd.zmw c=0 then (zpm c,0) else (noL,Snd.zmw c)
theorem yfu (c:Config):zao Tryz.prog 54 [c.hv] zae (.tup [(yif c).1.hv,i64 (yif c).2]) zae:=by
 refine zap mixed Tryz.func54 zz5 ?_;(conv=>whnf);have pn:=Snd.zpb c;by_cases c1:Snd.zmw c=0
 case neg =>
  rw [show yif c=(noL,Snd.zmw c) from zy0 c1];rw [show Snd.ywa c=(Snd.noS,Snd.zmw c) from zy0 c1] at pn
  (refine cP ?_;refine dL pn ?_)
  rw [show (Snd.zmw c != 0)=true from zy128.2 c1];(conv=>whnf)
  try rfl
 case pos =>
  have hw:=Snd.zcn c1;rw [show yif c=(zpm c,0) from zy1 c1];rw [show Snd.ywa c=(Snd.yok c,0) from zy1 c1] at pn
  (refine cP ?_;refine dL pn ?_)
  repeat refine sG ?_
  (refine cP ?_;refine dL (Rcv.yve c zz0 zz0 zz0) ?_)
  ((refine zbe ?_ ?_;(· kernel_rfl);conv=>whnf);try refine sG ?_)
  try rfl
theorem ywr (l:List zbb) (i j:Nat) (hij:i<=j) (hj:j<=l.length) (hb:l.length<2 ^ 40) :
 zao Tryz.prog 117 [.osl 1000 3 0 (l.map zbb.row).length,i64 i,i64 j] (lk .free [(1000,.live (.row 110 3 (l.map zbb.row)))])
  (.osl 1000 3 0 (l.length-(j-i))) (lk .free [(1000,.live (.row 110 3 ((l.take i++l.drop j).map zbb.row++List.replicate (j-i) ([pi 0,pb false,.v (.slice none 0 0)]))))]):=by
 refine zan mixed Tryz.func117 zz5 [1000] zbi ?_;have hlr:(l.map zbb.row).length=l.length:=by simp
 (conv=>whnf);refine sO ?_;by_cases h:i=j
 . subst h
   refine sT ?_;refine zam [(1000,some 1000)] rfl rfl ⟨rfl,trivial⟩ rfl ?_ ⟨⟨rfl,.inl ⟨1000,rfl,?_⟩⟩,trivial⟩
   . show HV.osl 1000 3 0 (l.length-(i-i))=HV.osl 1000 3 0 (l.map zbb.row).length
     rw [hlr,zy98];rfl
   . show zad.live (.row _ 3 (l.map zbb.row))=zad.live (.row _ 3 _)
     rw [zy25,zy98,zy142,zy8]
 . refine sN ?_
   refine sO ?_;refine sO ?_;refine ⟨_,rfl,?_,?_⟩
   . rw [hlr];omega
   (conv=>whnf);refine zaa zz3 ?_;(conv=>whnf);refine zbe ?_ ?_
   . kernel_rfl
   (conv=>whnf);refine zaa zz35 ?_;(conv=>whnf);refine zaa zz35 ?_;(conv=>whnf);refine zam [(1000,some 1000)] rfl rfl ⟨rfl,trivial⟩ rfl ?_ ⟨⟨rfl,.inl ⟨1000,rfl,?_⟩⟩,trivial⟩
   . show HV.osl 1000 3 0 _=HV.osl 1000 3 0 _
     congr 1;simp;omega
   . refine (congrArg (fun r=>zad.live (.row _ 3 r)) (zyz (rows:=l.map zbb.row) (i:=i) (j:=j) (z:=([pi 0,pb false,.v (.slice none 0 0)])) hij (by rw [hlr];exact hj) ?_ ?_ ?_ ?_ ?_)).trans ?_
     . simp<;>omega
     . simp<;>omega
     . simp<;>omega
     . simp;omega
     . simp;omega
     . rw [zy36,zy119,zy101];rfl
theorem xfu (l:List zbb) (i j:Nat) (hij:i<=j) (hj:j<=l.length) (hb:l.length<2 ^ 40) :
 zao Tryz.prog 117 [.own 1000,i64 i,i64 j] (lk .free [(1000,.live (.row 110 3 (l.map zbb.row)))])
  (.own 0) (lk .free [(1000,.dead),(0,.live (.row 110 3 ((l.take i++l.drop j).map zbb.row)))]):=by
 have h:=zjj (d:=0) (L:=[]) (rows:=(l.take i++l.drop j).map zbb.row++List.replicate (j-i) ([pi 0,pb false,.v (.slice none 0 0)])) (zua (ywr l i j hij hj hb)) (.inl rfl) zz3 rfl zz5
 rwa [zy93 zz3] at h
theorem ynq (a b:List zbb) (x:zbb) (i j:Int) (hi:i=a.length) (hj:j=a.length+1) (hb:(a++x::b).length<2 ^ 40) :
 zao Tryz.prog 117 [.own 1000,i64 i,i64 j] (lk .free [(1000,.live (.row 110 3 ((a++x::b).map zbb.row)))])
  (.own 0) (lk .free [(1000,.dead),(0,.live (.row 110 3 ((a++b).map zbb.row)))]):=by
 subst hi hj;have h:=xfu (a++x::b) a.length (a.length+1) zz0 zz4 hb
 rwa [zy152,show (a++x::b).drop (a.length+1)=b by rw [<- zy134,zy111];rfl,zy125] at h
theorem yci {inp out:List zbb} (a b:List zbb) (x:zbb) (i j:Int) (h1:inp=a++x::b) (h2:out=a++b) (hi:i=a.length) (hj:j=a.length+1) (hb:inp.length<2 ^ 40) :
 zao Tryz.prog 117 [.own 1000,i64 i,i64 j] (lk .free [(1000,.live (.row 110 3 (inp.map zbb.row)))])
  (.own 0) (lk .free [(1000,.dead),(0,.live (.row 110 3 (out.map zbb.row)))]):=by
 subst h1 h2;exact ynq a b x i j hi hj hb
theorem yzn {N M:Nat} (l:zdq) (x:Step) (h:LI N M l) (hN:N+1<=2 ^ 20) (hM:M+120<=2000000) (hx:x.message.data.length<2 ^ 38) :
 zao Tryz.prog 65 [l.hv,x.hv] zae (.tup [.agg (lnC (doS l x).1.sender (doS l x).1.receiver (.own 0)),(doS l x).2.hv]) (lk .free [(0,zjq (doS l x).1.way)]):=by
 have hway:=h.way;have hby:=h.bytes;generalize hT:doS l x=T;rw [doS] at hT;refine zan mixed Tryz.func65 zz5 [] (fun _=>.inl rfl) ?_;(conv=>whnf)
 (refine zas [(0,20)]  ?_;(conv=>whnf);refine dO (yfz l h.snd.fit (h.rcv.fit h.small) zz0 (fun p hp=>by have:=hby p hp;omega)) ?_)
 by_cases c1:x.kind=1
 case pos =>
  rw [zy1 c1] at hT;rw [show (x.kind==1)=true from zy41.2 c1];(conv=>whnf);have ps:=Snd.zpd l.sender x.message h.snd.fit hx;by_cases e1:Snd.zey l.sender x.message=0
  case pos =>
   rw [zy1 e1] at hT;subst hT;rw [Snd.yfh e1] at ps
   (refine cP ?_;refine dL ps ?_)
   repeat refine sG ?_
   have hy:=(show LI (N+1) M {l with sender:=Snd.zii l.sender x.message} from ⟨Snd.yas h.snd e1 hN,h.rcv,h.small,h.way,h.bytes⟩)
   have hyw:=Snd.zcn hy.snd.cfg;have hyp:=hy.snd.npaths
   (refine cP ?_;refine dL (Snd.zlw (({l with sender:=Snd.zii l.sender x.message}:zdq)).sender hy.snd.pf zz73 zz0) ?_)
   repeat refine sG ?_
   (refine zac [] [(1000,6),(1001,20)] [(0,950)] ?_;(conv=>whnf);refine dG (zkq (Snd.zfl (({l with sender:=Snd.zii l.sender x.message}:zdq)).sender).1 (({l with sender:=Snd.zii l.sender x.message}:zdq)).receiver (({l with sender:=Snd.zii l.sender x.message}:zdq)).way (Snd.zfl (({l with sender:=Snd.zii l.sender x.message}:zdq)).sender).2 (Snd.zor hy.snd)) ?_ ⟨rfl,rfl,rfl,⟨zz1,⟨zz1,trivial⟩⟩,⟨⟨rfl,rfl⟩,trivial⟩,rfl,rfl,rfl⟩)
   exact yy21
  case neg =>
   rw [zy0 e1] at hT;subst hT;rw [Snd.zst rfl e1] at ps
   (refine cP ?_;refine dL ps ?_)
   rw [show (Snd.zey l.sender x.message != 0)=true from zy128.2 e1];(conv=>whnf);exact yy11
 case neg =>
  rw [zy0 c1] at hT;rw [show (x.kind==1)=false from zy20.2 c1];(conv=>whnf)
  repeat refine sG ?_
  by_cases c2:x.kind=2\/x.kind=3\/x.kind=4
  case neg =>
   rw [zy0 c2] at hT;have c2:=not_or.1 c2;have c3:=not_or.1 c2.2;rw [show (x.kind==2)=false from zy20.2 c2.1];(conv=>whnf)
   repeat refine sG ?_
   rw [show (x.kind==3)=false from zy20.2 c3.1];(conv=>whnf)
   repeat refine sG ?_
   rw [show (x.kind==4)=false from zy20.2 c3.2];(conv=>whnf)
   repeat refine sG ?_
   by_cases c5:x.kind=5
   case pos =>
    rw [zy1 c5] at hT;subst hT;rw [show (x.kind==5)=true from zy41.2 c5];(conv=>whnf)
    repeat refine sG ?_
    (refine cP ?_;refine dL (Snd.yvm l.sender h.snd.fit) ?_)
    repeat refine sG ?_
    have hy:=(show LI N M {l with sender:=Snd.tick l.sender} from ⟨Snd.ybh h.snd,h.rcv,h.small,h.way,h.bytes⟩)
    have hyw:=Snd.zcn hy.snd.cfg;have hyp:=hy.snd.npaths
    (refine cP ?_;refine dL (Snd.zlw (({l with sender:=Snd.tick l.sender}:zdq)).sender hy.snd.pf zz73 zz0) ?_)
    repeat refine sG ?_
    (refine zac [] [(1000,6),(1001,20)] [(0,950)] ?_;(conv=>whnf);refine dG (zkq (Snd.zfl (({l with sender:=Snd.tick l.sender}:zdq)).sender).1 (({l with sender:=Snd.tick l.sender}:zdq)).receiver (({l with sender:=Snd.tick l.sender}:zdq)).way (Snd.zfl (({l with sender:=Snd.tick l.sender}:zdq)).sender).2 (Snd.zor hy.snd)) ?_ ⟨rfl,rfl,rfl,⟨zz1,⟨zz1,trivial⟩⟩,⟨⟨rfl,rfl⟩,trivial⟩,rfl,rfl,rfl⟩)
    exact yy21
   case neg =>
    rw [zy0 c5] at hT;subst hT;rw [show (x.kind==5)=false from zy20.2 c5];(conv=>whnf);exact yy11
  case pos =>
   rw [zy1 c2] at hT;have c6:x.kind=2\/x.kind≠2/\(x.kind=3\/x.kind≠3/\x.kind=4):=by omega
   rcases c6 with c6 | ⟨c8,c6 | ⟨c7,c6⟩⟩
   . rw [show (x.kind==2)=true from zy41.2 c6]
     conv=>whnf
     repeat refine sG ?_
     by_cases n0:x.n<0
     case pos =>
      rw [zy1 n0] at hT;subst hT;rw [show decide (x.n<0)=true from zy16 n0];(conv=>whnf);exact yy11
     case neg =>
     rw [zy0 n0] at hT;rw [show decide (x.n<0)=false from zy19 n0];(conv=>whnf);cases hp:l.way[x.n.toNat]? with
     | none =>
      rw [hp] at hT;dsimp only at hT;subst hT;have hge:=zy144.1 hp;rw [show decide (x.n>=((l.way.map zbb.row).length:Int))=true from zy16 (by rw [zy2];omega)];(conv=>whnf);exact yy11
     | some p =>
     rw [hp] at hT;dsimp only at hT;have hlt:=(zy9.1 hp).1;have hpb:=hby p (zy12 hp);have hsp:l.way=l.way.take x.n.toNat++p::l.way.drop (x.n.toNat+1):=by
      obtain ⟨hk,e⟩:=zy9.1 hp;rw [<- e,zy113,zy25]
     have hsl:(l.way.take x.n.toNat).length=x.n.toNat:=by simp;omega
     have her:l.way.eraseIdx x.n.toNat=l.way.take x.n.toNat++l.way.drop (x.n.toNat+1):=zy88 _ _;rw [show decide (x.n>=((l.way.map zbb.row).length:Int))=false from zy19 (by rw [zy2];omega)];(conv=>whnf)
     repeat refine sG ?_
     refine zaa ⟨by omega,by rw [zy2];omega⟩ (zw ?_);refine Snd.zaj hp zz0 (zw ?_);rw [zy0 (by omega),zy1 c6] at hT;rw [show (x.kind==4)=false from zy20.2 (by omega)];(conv=>whnf)
     repeat refine sG ?_
     refine zat (z:=x.n+1) (zbh zz0 zz0) (zw ?_)
     (refine zac [] [(1000,20)] [(0,930)] ?_;(conv=>whnf);refine dG (yci (l.way.take x.n.toNat) (l.way.drop (x.n.toNat+1)) p x.n (x.n+1) hsp rfl zz0 zz0 zz0) ?_)
     rw [show (x.kind==2)=true from zy41.2 c6];(conv=>whnf);subst hT;have hli:LI N M {l with way:=l.way.eraseIdx x.n.toNat}:=⟨h.snd,h.rcv,h.small,by show (l.way.eraseIdx _).length<=40;rw [zy106];split<;>omega,fun q hq=>hby q (zy73 hq)⟩
     (refine zac [] [(1000,6),(1001,930)] [(0,940)] ?_;(conv=>whnf);refine dG (ypd {l with way:=l.way.eraseIdx x.n.toNat} p hli hM hpb) ?_ ⟨rfl,rfl,rfl,⟨zz1,⟨⟨rfl,_,rfl,.inl ⟨rfl,(zaq (by rw [her]))⟩⟩,trivial⟩⟩,⟨⟨rfl,rfl⟩,trivial⟩,rfl,rfl,rfl⟩)
     repeat refine sG ?_
     have hy:=(ygx hli hpb hM)
     have hyw:=Snd.zcn hy.snd.cfg;have hyp:=hy.snd.npaths
     (refine cP ?_;refine dL (Snd.zlw ((zfw {l with way:=l.way.eraseIdx x.n.toNat} p)).sender hy.snd.pf zz73 zz0) ?_)
     repeat refine sG ?_
     (refine zac [] [(1000,6),(1001,940)] [(0,950)] ?_;(conv=>whnf);refine dG (zkq (Snd.zfl ((zfw {l with way:=l.way.eraseIdx x.n.toNat} p)).sender).1 ((zfw {l with way:=l.way.eraseIdx x.n.toNat} p)).receiver ((zfw {l with way:=l.way.eraseIdx x.n.toNat} p)).way (Snd.zfl ((zfw {l with way:=l.way.eraseIdx x.n.toNat} p)).sender).2 (Snd.zor hy.snd)) ?_ ⟨rfl,rfl,rfl,⟨zz1,⟨zz1,trivial⟩⟩,⟨⟨rfl,rfl⟩,trivial⟩,rfl,rfl,rfl⟩)
     exact yy21
   . rw [show (x.kind==2)=false from zy20.2 c8]
     conv=>whnf
     repeat refine sG ?_
     rw [show (x.kind==3)=true from zy41.2 c6];(conv=>whnf)
     repeat refine sG ?_
     by_cases n0:x.n<0
     case pos =>
      rw [zy1 n0] at hT;subst hT;rw [show decide (x.n<0)=true from zy16 n0];(conv=>whnf);exact yy11
     case neg =>
     rw [zy0 n0] at hT;rw [show decide (x.n<0)=false from zy19 n0];(conv=>whnf);cases hp:l.way[x.n.toNat]? with
     | none =>
      rw [hp] at hT;dsimp only at hT;subst hT;have hge:=zy144.1 hp;rw [show decide (x.n>=((l.way.map zbb.row).length:Int))=true from zy16 (by rw [zy2];omega)];(conv=>whnf);exact yy11
     | some p =>
     rw [hp] at hT;dsimp only at hT;have hlt:=(zy9.1 hp).1;have hpb:=hby p (zy12 hp);have hsp:l.way=l.way.take x.n.toNat++p::l.way.drop (x.n.toNat+1):=by
      obtain ⟨hk,e⟩:=zy9.1 hp;rw [<- e,zy113,zy25]
     have hsl:(l.way.take x.n.toNat).length=x.n.toNat:=by simp;omega
     have her:l.way.eraseIdx x.n.toNat=l.way.take x.n.toNat++l.way.drop (x.n.toNat+1):=zy88 _ _;rw [show decide (x.n>=((l.way.map zbb.row).length:Int))=false from zy19 (by rw [zy2];omega)];(conv=>whnf)
     repeat refine sG ?_
     refine zaa ⟨by omega,by rw [zy2];omega⟩ (zw ?_);refine Snd.zaj hp zz0 (zw ?_);rw [zy0 (by omega),zy0 c8] at hT;rw [show (x.kind==4)=false from zy20.2 (by omega)];(conv=>whnf)
     repeat refine sG ?_
     refine zat (z:=x.n+1) (zbh zz0 zz0) (zw ?_)
     (refine zac [] [(1000,20)] [(0,930)] ?_;(conv=>whnf);refine dG (yci (l.way.take x.n.toNat) (l.way.drop (x.n.toNat+1)) p x.n (x.n+1) hsp rfl zz0 zz0 zz0) ?_)
     rw [show (x.kind==2)=false from zy20.2 c8];(conv=>whnf)
     repeat refine sG ?_
     subst hT;have hli:LI N M {l with way:=l.way.eraseIdx x.n.toNat}:=⟨h.snd,h.rcv,h.small,by show (l.way.eraseIdx _).length<=40;rw [zy106];split<;>omega,fun q hq=>hby q (zy73 hq)⟩
     have hy:=hli;have hyw:=Snd.zcn hy.snd.cfg;have hyp:=hy.snd.npaths
     (refine cP ?_;refine dL (Snd.zlw (({l with way:=l.way.eraseIdx x.n.toNat}:zdq)).sender hy.snd.pf zz73 zz0) ?_)
     repeat refine sG ?_
     (refine zac [] [(1000,6),(1001,930)] [(0,950)] ?_;(conv=>whnf);refine dG (zkq (Snd.zfl (({l with way:=l.way.eraseIdx x.n.toNat}:zdq)).sender).1 (({l with way:=l.way.eraseIdx x.n.toNat}:zdq)).receiver (({l with way:=l.way.eraseIdx x.n.toNat}:zdq)).way (Snd.zfl (({l with way:=l.way.eraseIdx x.n.toNat}:zdq)).sender).2 (Snd.zor hy.snd)) ?_ ⟨rfl,rfl,rfl,⟨zz1,⟨⟨rfl,_,rfl,.inl ⟨rfl,(zaq (by rw [her]))⟩⟩,trivial⟩⟩,⟨⟨rfl,rfl⟩,trivial⟩,rfl,rfl,rfl⟩)
     exact yy21
   . rw [show (x.kind==2)=false from zy20.2 c8]
     conv=>whnf
     repeat refine sG ?_
     rw [show (x.kind==3)=false from zy20.2 c7];(conv=>whnf)
     repeat refine sG ?_
     rw [show (x.kind==4)=true from zy41.2 c6];(conv=>whnf)
     repeat refine sG ?_
     by_cases n0:x.n<0
     case pos =>
      rw [zy1 n0] at hT;subst hT;rw [show decide (x.n<0)=true from zy16 n0];(conv=>whnf);exact yy11
     case neg =>
     rw [zy0 n0] at hT;rw [show decide (x.n<0)=false from zy19 n0];(conv=>whnf);cases hp:l.way[x.n.toNat]? with
     | none =>
      rw [hp] at hT;dsimp only at hT;subst hT;have hge:=zy144.1 hp;rw [show decide (x.n>=((l.way.map zbb.row).length:Int))=true from zy16 (by rw [zy2];omega)];(conv=>whnf);exact yy11
     | some p =>
     rw [hp] at hT;dsimp only at hT;have hlt:=(zy9.1 hp).1;have hpb:=hby p (zy12 hp);have hsp:l.way=l.way.take x.n.toNat++p::l.way.drop (x.n.toNat+1):=by
      obtain ⟨hk,e⟩:=zy9.1 hp;rw [<- e,zy113,zy25]
     have hsl:(l.way.take x.n.toNat).length=x.n.toNat:=by simp;omega
     have her:l.way.eraseIdx x.n.toNat=l.way.take x.n.toNat++l.way.drop (x.n.toNat+1):=zy88 _ _;rw [show decide (x.n>=((l.way.map zbb.row).length:Int))=false from zy19 (by rw [zy2];omega)];(conv=>whnf)
     repeat refine sG ?_
     refine zaa ⟨by omega,by rw [zy2];omega⟩ (zw ?_);refine Snd.zaj hp zz0 (zw ?_);rw [zy1 c6] at hT;rw [show (x.kind==4)=true from zy41.2 c6];(conv=>whnf)
     (refine zas [(0,935)]  ?_;(conv=>whnf);refine dO (ymx [p] zz4 (fun q hq=>by rw [zy23] at hq;subst hq;omega)) ?_)
     (refine zac [false,true] [(1000,6),(1001,20)] [(0,940)] ?_;(conv=>whnf);refine dG (zkq l.sender l.receiver l.way [p] zz4) ?_)
     repeat refine sG ?_
     subst hT;have xao:LI N M {l with way:=zqo l.way [p]}:=ymh h fun q hq=>by rw [zy23] at hq;subst hq;exact hpb
     have hy:=xao;have hyw:=Snd.zcn hy.snd.cfg;have hyp:=hy.snd.npaths
     (refine cP ?_;refine dL (Snd.zlw (({l with way:=zqo l.way [p]}:zdq)).sender hy.snd.pf zz73 zz0) ?_)
     repeat refine sG ?_
     (refine zac [] [(1000,6),(1001,940)] [(0,950)] ?_;(conv=>whnf);refine dG (zkq (Snd.zfl (({l with way:=zqo l.way [p]}:zdq)).sender).1 (({l with way:=zqo l.way [p]}:zdq)).receiver (({l with way:=zqo l.way [p]}:zdq)).way (Snd.zfl (({l with way:=zqo l.way [p]}:zdq)).sender).2 (Snd.zor hy.snd)) ?_ ⟨rfl,rfl,rfl,⟨zz1,⟨zz1,trivial⟩⟩,⟨⟨rfl,rfl⟩,trivial⟩,rfl,rfl,rfl⟩)
     exact yy21
theorem yiv {N M:Nat} (l:zdq) (x:Step) (h:LI N M l) (hN:N+1<=2 ^ 20) (hM:M+120<=2000000) (hx:x.message.data.length<2 ^ 38) :
 zao Tryz.prog 65 [l.hv,x.hv] zae (.tup [(doS l x).1.hv,(doS l x).2.hv]) zae:=by
 refine zci Tryz.func65 (yzn l x h hN hM hx) ?_;generalize doS l x=d;(conv=>whnf)
 rfl
theorem zdb {N M:Nat} (l:zdq) (h:LI N M l):zao Tryz.prog 55 [l.hv] zae l.hv zae:=by
 have hway:=h.way;refine zci Tryz.func55 (yfz l h.snd.fit (h.rcv.fit h.small) zz0 (fun p hp=>by have:=h.bytes p hp;omega)) ?_;(conv=>whnf)
 rfl
end Ln
namespace Snd
open Ser
theorem SL.side {s t:zab} (h:SL s) (e:t.sched=s.sched):SL t:=by unfold SL;rw [e];exact h
theorem yfk (s:zab):(Snd.settle s).sched=s.sched:=rfl
theorem xdd {s:zab} (h:SL s) (c:Chunk):SL (zkc s c):=by
 unfold zkc;split
 . exact h
 split
 . exact h
 rw [zkd];refine h.side ?_;rw [yfk];unfold zen;have hU:∀ p l,(zhq p (zgo s c (Sco.zfq s.out s.cum c s.paths.length)) l).sched=s.sched:=fun p l=>by
  unfold zhq;split
  . rfl
  . split<;>rfl
 split
 . exact hU _ _
 . exact hU _ _
theorem zug (part:Int):∀ (l:List Nat) (s:zab),(l.foldl (zem part) s).sched=s.sched
 | [],_=>rfl
 | i::l,s=>by
  rw [zy39,zug part l];unfold zem;split
  . rfl
  split
  . rfl
  . dsimp only;split<;>rfl
theorem xex {s:zab} (h:SL s):SL (tick s):=h.side (zug _ _ _)
theorem zqz {path:Nat}:∀ (l:List Nat) (p:zgj),(l.foldl (zdn path) p).s.sched=p.s.sched
 | [],_=>rfl
 | i::l,p=>by
  rw [zy39,zqz l];unfold zdn;split
  . rfl
  . split
    . exact ycq _ _ _
    . rfl
theorem yly {N:Nat}:∀ (n:Nat) {p:zgj},SI N p.s->SL p.s->SL (zgl n p).s
 | 0,_,_,h=>h
 | n+1,p,hS,h=>by
  rw [zgl];cases hq:next p with
  | none=>exact h
  | some q=>exact yly n (yij hS hq) (xdu hS hq)
theorem xeg {N:Nat} {s:zab} (hS:SI N s) (h:SL s):SL (zfl s).1:=by
 have h1:=yqz h;have s1:=(ztw hS).1;have s2:=zpv (o:=List.replicate s.paths.length []) s1;have h2:SL (forward ⟨expire s,List.replicate s.paths.length []⟩).s:=h1.side (zzf _);have h3:SL (again (forward ⟨expire s,List.replicate s.paths.length []⟩)).s:=h2.side (zqz _ _);exact (yly 61 (zyo s2) h3).side rfl
theorem xdq {c:Config} (h:zmw c=0):SL (yok c):=by
 have hw:=zcn h;have e1:(yok c).sched=Sch.new c.streams:=rfl;unfold SL;rw [e1];unfold Sch.new;dsimp only;rw [zbh (by omega) (by omega),zy76];omega
end Snd
namespace Ln
open Ser
theorem ykx {back:Bool}:∀ (cs:List Chunk) {x:zdq×Bool},Snd.SL x.1.sender->Snd.SL (cs.foldl (zhc back) x).1.sender
 | [],_,h=>h
 | c::cs,x,h=>by
  refine ykx (back:=back) cs ?_;unfold zhc;split
  . exact Snd.xdd h c
  split
  . exact h
  split
  . exact h
  . exact h
theorem xce {l:zdq} (h:Snd.SL l.sender) (p:zbb):Snd.SL (zfw l p).sender:=by
 have h2:Snd.SL (zio l p).1.sender:=ykx (back:=p.back) _ (x:=(l,false)) h;unfold zfw;split
 . exact h
 split
 . unfold told;split<;>exact h2
 . exact h2
theorem ztt {N:Nat} {l:zdq} (hS:Snd.SI N l.sender) (h:Snd.SL l.sender):Snd.SL (emit l).sender:=Snd.xeg hS h
theorem yjy {N M:Nat} {l:zdq} (h:LI N M l) (hl:Snd.SL l.sender) (x:Step) (hN:N+1<=2 ^ 20) (hM:M+120<=2000000):Snd.SL (doS l x).1.sender:=by
 unfold doS;split
 . split
   . rename_i e
     exact ztt (l:={l with sender:=Snd.zii l.sender x.message}) (Snd.yas h.snd e hN) (hl.side rfl)
   . exact hl
 split
 . split
   . exact hl
   split
   . exact hl
   rename_i p hp;have hb:=h.bytes p (zy12 hp);split
   . exact ztt (l:={l with way:=zqo l.way [p]}) h.snd hl
   . split
     . exact ztt (ygx (l:={l with way:=l.way.eraseIdx x.n.toNat}) ⟨h.snd,h.rcv,h.small,by show (l.way.eraseIdx _).length<=40;have:=h.way;rw [zy106];split<;>omega,fun q hq=>h.bytes q (zy73 hq)⟩ hb hM).snd (xce (l:={l with way:=l.way.eraseIdx x.n.toNat}) hl p)
     . exact ztt (l:={l with way:=l.way.eraseIdx x.n.toNat}) h.snd hl
 split
 . exact ztt (l:={l with sender:=Snd.tick l.sender}) (Snd.ybh h.snd) (Snd.xex hl)
 . exact hl
end Ln
namespace Ln
open Ser
abbrev xgw (l:List Answer):zad:=.live (.row 81 2 (l.map Answer.row))
abbrev xhb (l:List Step):HV:=.p (.sl 7 (l.map Step.row))
abbrev lnL (l:zdq):zad:=.live (.cells 40 l.cells)
abbrev xfe:List HV:=[i64 0,i64 0,i64 0,i64 0,i64 0,i64 0,i64 0,i64 0,zgk,i64 0,i64 0,zgk,zgk,zgk,i64 0,i64 0,i64 0,zgk,zgk,zbk false,i64 0,i64 0,i64 0,i64 0,i64 0,i64 0,i64 0,i64 0,i64 0,zgk,zgk,zgk,zgk,zgk]
def zmu (c:Config) (l:List Step):zdq×List Answer×Int :=
 if Snd.zmw c≠0 then (noL,[],Snd.zmw c) else if l.length>200 then (noL,[],5) else ((znd (zpm c) l).1,(znd (zpm c) l).2,0)
theorem ytx (l:zdq) (A:List Step) (x:Step):znd l (A++[x])=((doS (znd l A).1 x).1,(znd l A).2++[(doS (znd l A).1 x).2]):=by
 rw [yak];rfl
theorem ygb (c:Config) (l:List Step) (h:Snd.zmw c≠0\/l.length>200) :
 zao Tryz.prog 21 [c.hv,xhb l] zae (.tup [(zmu c l).1.hv,.p (.sl 2 ((zmu c l).2.1.map Answer.row)),i64 (zmu c l).2.2]) zae:=by
 refine zap mixed Tryz.func21 zz5 ?_;generalize hT:zmu c l=T;rw [zmu] at hT;(conv=>whnf);have pn:=yfu c;by_cases c1:Snd.zmw c=0
 case neg =>
  rw [zy1 c1] at hT;subst hT;rw [show yif c=(noL,Snd.zmw c) from zy0 c1] at pn
  (refine cP ?_;refine dL pn ?_)
  rw [show (Snd.zmw c != 0)=true from zy128.2 c1];(conv=>whnf)
  try rfl
 case pos =>
  rw [zy0 (fun h=>h c1)] at hT;rw [show yif c=(zpm c,0) from zy1 c1] at pn
  (refine cP ?_;refine dL pn ?_)
  repeat refine sG ?_
  have c2:l.length>200:=h.resolve_left (fun h=>h c1);rw [zy1 c2] at hT;subst hT;refine zai zz3 (zw ?_)
  try rfl
theorem ypj (c:Config) (l:List Step) (c1:Snd.zmw c=0) (c2:¬ l.length>200) (hb:∀ x∈l,x.message.data.length<2 ^ 38) :
 zao Tryz.prog 21 [c.hv,xhb l] zae (.tup [(zmu c l).1.hv,.own 0,i64 (zmu c l).2.2]) (lk .free [(0,xgw (zmu c l).2.1)]):=by
 refine zan mixed Tryz.func21 zz5 [] (fun _=>.inl rfl) ?_;generalize hT:zmu c l=T;rw [zmu,zy0 (fun h=>h c1),zy0 c2] at hT;(conv=>whnf);have pn:=yfu c;rw [show yif c=(zpm c,0) from zy1 c1] at pn
 (refine cP ?_;refine dL pn ?_)
 repeat refine sG ?_
 refine zag zz3 (zw ?_)
 repeat refine sG ?_
 refine ⟨{x:(zdq×List Answer)×List Step×List Step // l=x.2.1++x.2.2/\znd (zpm c) x.2.1=x.1/\LI x.2.1.length (120*x.2.1.length) x.1.1},fun | ⟨((y,az),A,B),_⟩=>hs 47 [(4,.ptr 4 0),(7,.ptr 7 0),(9,.own 900),(27,xhb l),(28,i64 l.length),(29,i64 A.length)] [(4,.live (.cells 40 xfe)),(7,lnL y),(900,xgw az)],fun x=>x.1.2.2.length,⟨((zpm c,[]),[],l),rfl,rfl,yig c1⟩,?_,?_⟩
 . exact (zdx [(4,some 4),(7,some 7),(900,none)])
 rintro ⟨⟨⟨y,az⟩,A,B⟩,k1,k2,k3⟩;dsimp only at k1 k2 k3;(conv=>whnf);cases B with
 | cons x B =>
  have hz:=zcf k1;have hxd:=hb x (zks k1);have hnx:=ytx (zpm c) A x;rw [k2] at hnx;dsimp only at hnx;have hli:=zts k3 x zz0 zz0;have pd:=yiv y x k3 zz0 zz0 hxd;have hal:az.length=A.length:=by have:=ymf A (zpm c);rw [k2] at this;exact this
  generalize doS y x=D at hnx hli pd;obtain ⟨z,a⟩:=D;dsimp only at hnx hli;refine sT ?_;refine zal k1 rfl (zw ?_)
  (refine cP ?_;refine dL pd ?_)
  refine zaa (c:=((az.map Answer.row).length+1)*16<=140737488355328) zz15 (zw ?_);refine sF ?_;exact ⟨⟨((z,az++[a]),A++[x],B),zar k1,hnx,by rw [zy6,zy57,show 120*(A.length+1)=120*A.length+120 by omega];exact hli⟩,(zcr [(4,some 4),(7,some 7),(900,some 43)] (by repeat' (first | exact z0 | refine z1 ?_ | refine ⟨?_,?_⟩ | ((exact zca (f:=Answer.row) rfl rfl)) | exact z2))),by simp⟩
 | nil =>
  have hz:=zcw k1;rw [zy8] at k1;rw [<- k1] at k2;rw [k2] at hT;subst hT;refine sN ?_;exact zam [(0,some 900)] rfl rfl trivial rfl rfl ⟨⟨rfl,.inl ⟨900,rfl,rfl⟩⟩,trivial⟩
theorem yga (c:Config) (l:List Step) (hb:∀ x∈l,x.message.data.length<2 ^ 38) :
 zao Tryz.prog 21 [c.hv,xhb l] zae (.tup [(zmu c l).1.hv,.p (.sl 2 ((zmu c l).2.1.map Answer.row)),i64 (zmu c l).2.2]) zae:=by
 by_cases h:Snd.zmw c≠0\/l.length>200
 . exact ygb c l h
 have h:=not_or.1 h;refine zci Tryz.func21 (ypj c l (Decidable.not_not.1 h.1) h.2 hb) ?_;generalize zmu c l=d;(conv=>whnf)
 rfl
end Ln
namespace Ln
open Ser
theorem ytw:∀ (a:List Step) {N M:Nat} {l:zdq},LI N M l->Snd.SL l.sender->N+a.length<=2 ^ 20->M+120*a.length<=2000000->Snd.SL (znd l a).1.sender
 | [],_,_,_,_,h,_,_=>h
 | x::a,N,M,l,hl,h,h1,h2=>by
  simp only [zy5] at h1 h2;exact ytw a (zts hl x zz0 zz0) (yjy hl h x zz0 zz0) zz0 zz0
end Ln
namespace Snd
open Ser
end Snd
namespace Ln
open Ser
end Ln
namespace Snd
open Ser
end Snd
namespace Ln
open Ser Snd
def stp (k:Int):Step:=⟨k,0,⟨0,false,0,0,[]⟩⟩
end Ln
namespace Ln
open Ser
def zoe:Nat->zdq->zdq
 | 0,l=>l
 | n+1,l=>zoe n (doS l (stp 2)).1
def round (l:zdq):zdq:=(doS (zoe l.way.length l) (stp 5)).1
theorem zto:∀ (n:Nat) (l:zdq),zoe (n+1) l=(doS (zoe n l) (stp 2)).1
 | 0,_=>rfl
 | n+1,l=>by rw [zoe,zto n];rfl
theorem ztn:∀ (n:Nat) {N M:Nat} {l:zdq},LI N M l->N+n<=2 ^ 20->M+120*n<=2000000->LI (N+n) (M+120*n) (zoe n l)
 | 0,_,_,_,h,_,_=>h
 | n+1,N,M,l,h,h1,h2=>by
  have:=ztn n (zts h (stp 2) zz0 zz0) zz0 zz0;rw [show N+(n+1)=N+1+n by omega,show M+120*(n+1)=M+120+120*n by omega];exact this
theorem ycb:∀ (n:Nat) {N M:Nat} {l:zdq},LI N M l->Snd.SL l.sender->N+n<=2 ^ 20->M+120*n<=2000000->Snd.SL (zoe n l).sender
 | 0,_,_,_,_,h,_,_=>h
 | n+1,N,M,l,h,hs,h1,h2=>ycb n (zts h (stp 2) zz0 zz0) (yjy h hs (stp 2) zz0 zz0) zz0 zz0
section
variable {N M:Nat} {l:zdq}
theorem yml (h:LI N M l) (h1:N+41<=2 ^ 20) (h2:M+4920<=2000000):LI (N+41) (M+4920) (round l):=by
 have hw:=h.way;have:=zts (ztn l.way.length h zz0 zz0) (stp 5) zz0 zz0;exact ⟨this.snd.mono zz0 zz0,this.rcv.more zz0,by omega,this.way,this.bytes⟩
theorem ymm (h:LI N M l) (hs:Snd.SL l.sender) (h1:N+41<=2 ^ 20) (h2:M+4920<=2000000):Snd.SL (round l).sender:=by
 have hw:=h.way;exact yjy (ztn l.way.length h zz0 zz0) (ycb _ h hs zz0 zz0) (stp 5) zz0 zz0
end
theorem zye {N M:Nat} (l:zdq) (h:LI N M l) (hsl:Snd.SL l.sender) (h1:N+41<=2 ^ 20) (h2:M+4920<=2000000):zao Tryz.prog 48 [l.hv] zae (round l).hv zae:=by
 have hw:=h.way;refine zap mixed Tryz.func48 zz5 ?_;(conv=>whnf);generalize hT:round l=T;refine ⟨{x:(Nat×Nat)×zdq // l.way.length=x.1.1+x.1.2/\zoe x.1.1 l=x.2/\LI (N+x.1.1) (M+120*x.1.1) x.2/\Snd.SL x.2.sender},fun | ⟨((k,_),y),_⟩=>hs 22 [(1,.ptr 1 0),(2,.ptr 2 0),(5,i64 l.way.length),(6,i64 k)] [(1,lnL y),(2,.live (.cells 40 xfe))],fun x=>x.1.1.2,⟨((0,l.way.length),l),by simp,rfl,h,hsl⟩,?_,?_⟩
 . exact (zdx [(1,some 1),(2,some 2)])
 rintro ⟨⟨⟨k,d⟩,y⟩,k1,k2,k3,k4⟩;dsimp only at k1 k2 k3 k4;refine zht fun Q hQ=>?_
 (conv=>whnf);cases d with
 | succ d =>
  have hli:=zts k3 (stp 2) zz0 zz0;have hsl2:=yjy k3 k4 (stp 2) zz0 zz0;have hnx:=zto k l;rw [k2] at hnx;have pd:=yiv y (stp 2) k3  zz0 zz0 zz5;generalize doS y (stp 2)=D at hli hsl2 hnx pd;obtain ⟨z,a⟩:=D;dsimp only at hli hsl2 hnx pd;refine sT ?_
  (refine cP ?_;refine dL pd ?_)
  refine sF ?_;refine hQ _ _ ?_;conv=>whnf
  exact ⟨⟨((k+1,d),z),by show l.way.length=k+1+d;omega,hnx,by rw [show N+(k+1)=N+k+1 by omega,show M+120*(k+1)=M+120*k+120 by omega];exact hli,hsl2⟩,(zdx [(1,some 1),(2,some 2)]),by simp⟩
 | zero =>
  have hk:k=l.way.length:=by omega
  subst hk;have pd:=yiv y (stp 5) k3  zz0 zz0 zz5;have hT:(doS y (stp 5)).1=T:=by rw [<- hT];unfold round;rw [k2]
  generalize doS y (stp 5)=D at hT pd;obtain ⟨z,a⟩:=D;dsimp only at hT pd;subst hT;refine sN ?_;refine hQ _ _ ?_;conv=>whnf
  (refine cP ?_;refine dL pd ?_)
  try rfl
end Ln
namespace Ln
open Ser
def busy (l:zdq):Bool:=!(Snd.calm l.sender)||decide (0<l.way.length)
def zet:Nat->zdq->zdq×Nat
 | 0,l=>(l,0)
 | n+1,l=>if busy l then ((zet n (round l)).1,(zet n (round l)).2+1) else (l,0)
theorem zqr {n:Nat} {l:zdq} (h:n=0\/busy l=false):zet n l=(l,0):=by
 cases n with
 | zero=>rfl
 | succ n=>rw [zet,zy0 (by rw [h.resolve_left (by omega)];decide)]
theorem zkk {n:Nat} {l:zdq} (h:busy l=true):zet (n+1) l=((zet n (round l)).1,(zet n (round l)).2+1):=by rw [zet,zy1 h]
theorem ywg (l:zdq):busy l=decide (0<l.way.length+l.sender.queue.length+l.sender.out.length):=by
 unfold busy Snd.calm;by_cases h:0<l.way.length+l.sender.queue.length+l.sender.out.length
 . rw [zy16 h]
   simp only [zy105,zy54,Bool.and_eq_false_iff,zy42,zy49];omega
 . rw [zy19 h]
   simp only [Bool.or_eq_false_iff,zy62,zy13,zy42,zy49];omega
theorem zdm {N M:Nat} (l:zdq) (h:LI N M l) (hsl:Snd.SL l.sender) (h1:N+16400<=2 ^ 20) (h2:M+1968000<=2000000):zao Tryz.prog 24 [l.hv] zae (.tup [(zet 400 l).1.hv,i64 (zet 400 l).2]) zae:=by
 refine zap mixed Tryz.func24 zz5 ?_;generalize hT:zet 400 l=T;(conv=>whnf)
 (refine cP ?_;refine dL (zdb l h) ?_)
 refine ⟨{x:Nat×zdq // x.1<=400/\((zet (400-x.1) x.2).1=T.1/\(zet (400-x.1) x.2).2+x.1=T.2)/\LI (N+41*x.1) (M+4920*x.1) x.2/\Snd.SL x.2.sender},fun | ⟨(k,y),_⟩=>hs 28 [(1,.ptr 1 0),(2,.ptr 2 0),(4,.ptr 4 0),(5,i64 k)] [(1,lnL l),(2,.live (.cells 40 xfe)),(4,lnL y)],fun x=>400-x.1.1,⟨(0,l),by omega,by rw [<- hT];exact ⟨rfl,rfl⟩,h,hsl⟩,?_,?_⟩
 . exact (zdx [(1,some 1),(2,some 2),(4,some 4)])
 rintro ⟨⟨k,y⟩,k1,k2,k3,k4⟩;dsimp only at k1 k2 k3 k4;refine zht fun Q hQ=>?_
 (conv=>whnf);have pc:=Snd.yux y.sender;by_cases c1:k<400
 case neg =>
  have hk:k=400:=by omega
  rw [hk,zqr (.inl (by omega))] at k2;refine zag (zy19 zz0) (zw ?_);exact yy77
 refine zai (zy16 zz0) (zw ?_)
 (refine cL ?_;refine dLm pc ?_)
 have hb0:busy y=(!(Snd.calm y.sender)||decide (0<y.way.length)):=rfl;cases hc:Snd.calm y.sender with
 | false =>
  (conv=>whnf);have hbz:busy y=true:=by rw [hb0,hc];rfl
  exact yy16
 | true =>
 (conv=>whnf);by_cases c2:0<y.way.length
 case pos =>
  have hbz:busy y=true:=by rw [hb0,hc,zy16 c2];rfl
  rw [show decide (((y.way.map zbb.row).length:Int)>0)=true from zy16 (by rw [zy2];omega)];(conv=>whnf);exact yy16
 case neg =>
  have hbz:busy y=false:=by rw [hb0,hc,zy19 c2];rfl
  rw [show decide (((y.way.map zbb.row).length:Int)>0)=false from zy19 (by rw [zy2];omega)];(conv=>whnf);rw [zqr (.inr hbz)] at k2;exact yy77
end Ln
namespace Rcv
open Srt Jn Ser
theorem yds {n:Nat}:∀ {S:List zay} {i:Nat} {b:List UInt8},zlm n i S=some b->∀ k (hk:k<S.length),S[k].chunk.part=((i+k:Nat):Int)/\S[k].chunk.last=decide (i+k+1=n)
 | p::r,i,b,h,k,hk=>by
  rw [zlm] at h;split at h
  . rename_i c
    obtain ⟨d,hd,-⟩:=zy29.1 h;cases k with
    | zero=>exact ⟨c.1,c.2⟩
    | succ k =>
     have:=yds hd k (by simpa using hk);rw [List.getElem_cons_succ,show i+(k+1)=i+1+k by omega];exact this
  . cases h
section
variable {C X Y:List Chunk} {M:Nat->List (List UInt8)} {r:Receiver} {T:Nat->Nat}
end
end Rcv
namespace Sch
section
variable {α:Type} {p:α->Bool}
theorem ylh:∀ {l:List α} {k:Nat},zbq p k l<0->∀ x∈l,p x=false
 | [],k,_,x,hx=>by cases hx
 | y::r,k,h,x,hx=>by
  simp only [zbq] at h;split at h
  . omega
  . rename_i hp
    rcases zy18.1 hx with rfl | hx
    . simpa using hp
    . exact ylh h x hx
theorem yli:∀ {l:List α} {k:Nat},0<=zbq p k l->∃ i,∃ h:i<l.length,zbq p k l=((k+i:Nat):Int)/\p l[i]=true/\∀ j,(hj:j<i)->p (l[j]'(Nat.lt_trans hj h))=false
 | [],k,h=>by simp [zbq] at h
 | y::r,k,h=>by
  simp only [zbq] at h ⊢;by_cases hp:p y=true
  . exact ⟨0,by simp,by rw [zy1 hp];simp,by simpa using hp,fun j hj=>absurd hj zz0⟩
  . rw [zy0 hp] at h ⊢
    obtain ⟨i,h1,h2,h3,h4⟩:=yli h;refine ⟨i+1,by simp;omega,by rw [h2];congr 1;omega,by simpa using h3,fun j hj=>?_⟩;cases j with
    | zero=>simpa using hp
    | succ j=>simpa using h4 j zz0
end
end Sch
namespace Gh
open Ser Srt Jn
section
variable {c:Config} {L:List Message}
end
theorem yoe {l:List zay} {b:List UInt8} (h:join l=some b):∀ i:Nat,i<l.length->∃ p∈l,p.chunk.part=(i:Int)/\p.chunk.last=decide (i+1=l.length):=by
 intro i hi;unfold join at h;split at h
 . cases h
 . have hs:=zjx (key:=ck) l
   obtain ⟨g1,g2⟩:=Rcv.yds h i zz0;rw [zy59] at g1 g2;exact ⟨_,zpf.mem_iff.1 (zy83 zz0),g1,g2⟩
end Gh
namespace Gh
open Ser Snd
section
variable {c:Config} {L:List Message} {A:Nat->Prop} {s:zab}
theorem ztg {α:Type} {l:List α} {y x:α} {i:Nat} (h:(l++[y])[i]?=some x):l[i]?=some x\/(i=l.length/\x=y):=by
 rcases zy82 i l.length with hi | hi
 . rw [zy35 hi] at h;exact .inl h
 . rw [zy50 hi] at h
   rcases zy115 (i-l.length) with h0 | h0
   . rw [h0] at h;cases h;exact .inr ⟨by omega,rfl⟩
   . rw [zy51 (by simp;omega)] at h;cases h
theorem zgd {α:Type} {l:List α} {x:α} {i:Nat} (h:l[i]?=some x):i<l.length:=(zy9.1 h).1
end
end Gh
namespace Pck
open Chk
theorem zls:∀ {l:List Chunk} {f:Nat},(zbf l).length<=f->zcb l=0->zfy f (zbf l)=(l.map clean,0)
 | [],f,_,_=>by cases f<;>rfl
 | c::r,f,h,hw=>by
  simp only [zcb] at hw;have hc:zda c=0:=by
   rcases Int.decEq (zda c) 0 with h | h
   . rw [zy1 h] at hw;exact hw
   . exact h
  rw [zy0 (fun h=>h hc)] at hw;have hb:zbf (c::r)=Chk.bytes c++zbf r:=rfl;have hlen:2<=(Chk.bytes c).length:=by rw [Chk.bytes,zy1 hc];simp
  rw [hb,zy6] at h;obtain ⟨g,rfl⟩:∃ g,f=g+1:=⟨f-1,by omega⟩
  rw [hb,zfy,zy0 (by rw [zy6];omega),yin hc,zy0 (fun h=>h rfl)];have hd:(Chk.bytes c++zbf r).drop (((Chk.bytes c).length:Int)).toNat=zbf r:=by simp
  rw [show (clean c,((Chk.bytes c).length:Int),(0:Int)).2.1=((Chk.bytes c).length:Int) from rfl,hd,zls (by omega) hw]
  rfl
end Pck
namespace Gh
open Ser Snd
def gF (s:zab) (id:Nat):Prop:=s.fates[id]?=some 3
section
variable {c:Config} {L:List Message} {A:Nat->Prop} {s:zab} {N:Nat}
end
end Gh
namespace Gh
open Ser Snd
section
variable {c:Config} {L:List Message} {A:Nat->Prop} {s:zab} {N:Nat}
end
end Gh
namespace Gh
open Ser Snd
section
variable {c:Config} {L:List Message} {A F:Nat->Prop} {s:zab} {N:Nat}
theorem yis (s:zab) {k:Nat} (h:gF s k):gF (Snd.settle s) k:=by
 unfold gF at h ⊢;show (s.fates.mapIdx fun id f=>settled s id f)[k]?=_;rw [zy48,h];show some (settled s k 3)=some 3;rw [settled,zy0 (by rintro ⟨h,-⟩;cases h)]
end
end Gh
namespace Gh
open Ser Srt Jn Rcv
section
variable {c:Config} {L:List Message} {A F:Nat->Prop} {D:List Nat} {r:Receiver}
theorem yxz {s m:Int} {o:Bool} {p:zay}:zeh s m o p=true↔p.chunk.stream=s/\p.chunk.ordered=o/\p.chunk.mid=m:=by
 unfold zeh;simp only [zy13,zy49,zy41];exact ⟨fun h=>⟨h.1.1,h.2,h.1.2⟩,fun h=>⟨⟨h.1,h.2.2⟩,h.2.1⟩⟩
theorem yjx (r:Receiver) (s m:Int) (o:Bool) (hj:join (r.pieces.filter (zeh s m o))=none):dlv r s m o=(r,false):=by unfold dlv;rw [hj]
theorem xcg (r:Receiver) (s m:Int) (o:Bool) {b:List UInt8} (hj:join (r.pieces.filter (zeh s m o))=some b):dlv r s m o=({zld r s m o with log:=r.log++[⟨s,m,o,b⟩]},true):=by unfold dlv;rw [hj]
end
end Gh
namespace Gh
open Ser Srt Jn Rcv
section
variable {c:Config} {L:List Message} {A F:Nat->Prop} {D:List Nat} {r:Receiver}
end
end Gh
namespace Gh
open Ser Snd Ln
section
variable {N M:Nat} {c:Config} {L:List Message} {A F:Nat->Prop} {D:List Nat} {l:zdq}
end
end Gh
namespace Tp
open Ser Srt Jn Rcv
structure CH where
 stream:Nat
 mid:Nat
 part:Nat
 last:Bool
 data:List UInt8
def CH.mk' (f:Int) (i:Nat) (x:CH):Chunk:=⟨1,tag (f+i),x.stream,x.mid,x.part,x.last,true,x.data,[],0,[]⟩
theorem xbh {α:Type} {key:α->Int}:∀ {l:List α},Sd key l->srt key l=l
 | [],_=>rfl
 | [x],_=>rfl
 | x::y::r,h=>by
  rw [srt,xbh h.2,ins,zy1 (h.1 y (by simp))]
theorem zmg {n:Nat}:∀ {l:List zay} {i:Nat},(∀ (k:Nat) p,l[k]?=some p->p.chunk.part=((i+k:Nat):Int)/\p.chunk.last=decide (i+k+1=n))->zlm n i l=some ((l.map fun p=>p.chunk.data).flatten)
 | [],_,_=>rfl
 | p::r,i,h=>by
  have h0:=h 0 p rfl;have ih:=zmg (n:=n) (l:=r) (i:=i+1) fun k q hq=>by
   have:=h (k+1) q (by simpa using hq);rw [show i+1+k=i+(k+1) by omega];exact this
  rw [zlm,zy1 ⟨by simpa using h0.1,by simpa using h0.2⟩,ih];rfl
theorem yup:∀ {l:List zay} {i:Nat},(∀ (k:Nat) p,l[k]?=some p->p.chunk.part=((i+k:Nat):Int))->Sd ck l
 | [],_,_=>trivial
 | p::r,i,h=>by
  refine ⟨fun q hq=>?_,yup (i:=i+1) fun k q hq=>?_⟩
  . obtain ⟨k,hk⟩:=zy61 hq
    have h1:=h 0 p rfl;have h2:=h (k+1) q (by simpa using hk);show p.chunk.part<=q.chunk.part;omega
  . have:=h (k+1) q (by simpa using hq)
    rw [show i+1+k=i+(k+1) by omega];exact this
theorem yso {l:List zay} (hl:l≠[]) (h:∀ (k:Nat) p,l[k]?=some p->p.chunk.part=(k:Int)/\p.chunk.last=decide (k+1=l.length)):join l=some ((l.map fun p=>p.chunk.data).flatten):=by
 have hs:srt ck l=l:=xbh (yup (i:=0) fun k p hk=>by rw [zy59];exact (h k p hk).1);rw [join,zy0 hl,hs];exact zmg fun k p hk=>by rw [zy59];exact h k p hk
theorem ysn {l:List zay} (h:∀ p∈l,p.chunk.last=false):join l=none:=by
 cases hj:join l with
 | none=>rfl
 | some b =>
  have hl:=ylp hj;obtain ⟨p,hp,-,e⟩:=Gh.yoe hj (l.length-1) zz0;rw [h p hp,zy16 (by omega)] at e;cases e
structure RI (S:Nat) (T:Nat->Nat) (U:Nat->List (List UInt8)) (lg:List zcs) (r:Receiver):Prop where
 zbp:r.zbp=(List.range S).map fun k=>(T k:Int)
 small:∀ k,T k<=1000
 zau:r.zau=[]
 log:r.log=lg
 zeh:∀ p∈r.pieces,∃ k,k<S/\p.chunk.stream=(k:Int)/\p.chunk.mid=(T k:Int)/\p.chunk.ordered=true/\p.chunk.last=false
 cur:∀ k,k<S->(r.pieces.filter (Rcv.zeh k (T k) true)).map (fun p=>(p.chunk.part,p.chunk.data))=(U k).mapIdx fun i d=>((i:Int),d)
def at1 {α:Type} (F:Nat->α) (k:Nat) (x:α):Nat->α:=fun j=>if j=k then x else F j
theorem add_nil (n:Int):add [] n=[⟨n,n⟩]:=rfl
theorem xhd (n:Int):up [⟨n+1,n+1⟩] n=(n+1,[]):=by
 rw [up,zy1 (by show n+1<=n+1;omega),up];show ((if n+1>n then n+1 else n),([]:List Span))=_;rw [zy1 (by omega)]
section
variable {S:Nat} {T:Nat->Nat} {U:Nat->List (List UInt8)} {lg:List zcs} {r:Receiver}
theorem RI.len (h:RI S T U lg r):r.zbp.length=S:=by rw [h.zbp,zy2,zy154]
theorem RI.at (h:RI S T U lg r) {k:Nat} (hk:k<S):r.zbp[k]?.getD 0=(T k:Int):=by
 rw [h.zbp,zy10,zy85 hk];rfl
theorem yvr {n:Nat} (h:n<=1000):tag (n:Int)=n:=by unfold tag;omega
theorem ywp (r:Receiver) (c:Chunk) (h:zdf r.cum c.tag<=r.cum):data r c=r:=by
 unfold data;rw [zy0 fun t=>by have:=t.zfj;omega]
theorem yqr (h:RI S T U lg r) {c:Chunk} {k:Nat} (hk:k<S) (h1:c.kind=1) (h2:c.stream=(k:Int)) (h3:c.mid=(T k:Int)) (h4:c.part=((U k).length:Int)) (h5:c.ordered=true) (hn:zdf r.cum c.tag=r.cum+1) (hT:T k<1000) :
 (data r c).cum=r.cum+1/\(data r c).config=r.config /\
 (if c.last=true then RI S (at1 T k (T k+1)) (at1 U k []) (lg++[⟨k,T k,true,(U k++[c.data]).flatten⟩]) (data r c) else RI S T (at1 U k (U k++[c.data])) lg (data r c)):=by
 have hlen:=h.len;have hat:=h.at hk;have htk:ybs r c (zdf r.cum c.tag):=by
  rw [hn];exact ⟨h1,by omega,by rw [hlen];omega,by omega,by rw [h.zau];rfl,.inl rfl⟩
 have xao:put r c={r with pieces:=r.pieces++[⟨r.cum+1,c⟩],cum:=r.cum+1,zau:=[]}:=by
  unfold put;rw [hn,h.zau,add_nil,xhd]
 have hks:c.stream.toNat=k:=by omega
 have hd:data r c=turns {r with pieces:=r.pieces++[⟨r.cum+1,c⟩],cum:=r.cum+1,zau:=[]} k:=by
  unfold data;rw [zy1 htk,zy1 h5,xao,hks]
 have hm:Rcv.zeh k (T k) true ⟨r.cum+1,c⟩=true:=by unfold Rcv.zeh;simp [h2,h3,h5]
 have hf:(r.pieces++[(⟨r.cum+1,c⟩:zay)]).filter (Rcv.zeh k (T k) true)=r.pieces.filter (Rcv.zeh k (T k) true)++[⟨r.cum+1,c⟩]:=by
  rw [zy53,zy153 hm];rfl
 have hother:∀ j,j≠k->(r.pieces++[(⟨r.cum+1,c⟩:zay)]).filter (Rcv.zeh j (T j) true)=r.pieces.filter (Rcv.zeh j (T j) true):=by
  intro j hj;rw [zy53,zy124 (by unfold Rcv.zeh;simp [h2];omega)];simp
 have hl:(r.pieces.filter (Rcv.zeh k (T k) true)).length=(U k).length:=by
  have:=congrArg List.length (h.cur k hk)
  rwa [zy2,zy94] at this
 have hopen:∀ p∈r.pieces.filter (Rcv.zeh k (T k) true),p.chunk.last=false:=fun p hp=>by obtain ⟨j,-,-,-,-,e⟩:=h.zeh p (zy91.1 hp).1;exact e
 have htt:tag ((r.zbp[k]?.getD 0))=(T k:Int):=by rw [hat];exact yvr (h.small k)
 cases hc:c.last with
 | false =>
  rw [zy0 (by decide)];have hj:join ((r.pieces++[(⟨r.cum+1,c⟩:zay)]).filter (Rcv.zeh k (T k) true))=none:=by
   rw [hf];refine ysn fun p hp=>?_
   rcases zy17.1 hp with hp | hp
   . exact hopen p hp
   . rw [zy23] at hp;subst hp;exact hc
  have hdl:dlv {r with pieces:=r.pieces++[⟨r.cum+1,c⟩],cum:=r.cum+1,zau:=[]} k (tag (r.zbp[k]?.getD 0)) true=({r with pieces:=r.pieces++[⟨r.cum+1,c⟩],cum:=r.cum+1,zau:=[]},false):=by
   rw [htt];exact Gh.yjx _ _ _ _ hj
  have xaq:data r c={r with pieces:=r.pieces++[⟨r.cum+1,c⟩],cum:=r.cum+1,zau:=[]}:=by
   rw [hd,zhm];show (if (dlv {r with pieces:=r.pieces++[⟨r.cum+1,c⟩],cum:=r.cum+1,zau:=[]} k (tag (r.zbp[k]?.getD 0)) true).2 then _ else (dlv {r with pieces:=r.pieces++[⟨r.cum+1,c⟩],cum:=r.cum+1,zau:=[]} k (tag (r.zbp[k]?.getD 0)) true).1)=_;rw [hdl];exact zy0 fun h=>by cases h
  rw [xaq];refine ⟨rfl,rfl,h.zbp,h.small,rfl,h.log,fun p hp=>?_,fun j hj=>?_⟩
  . rcases zy17.1 hp with hp | hp
    . exact h.zeh p hp
    . rw [zy23] at hp;subst hp;exact ⟨k,hk,h2,h3,h5,hc⟩
  . show ((r.pieces++[(⟨r.cum+1,c⟩:zay)]).filter _).map _=_
    unfold at1;by_cases e:j=k
    . subst e
      rw [zy1 rfl,hf,zy36,h.cur j hk,List.mapIdx_append];simp [h4]
    . rw [zy0 e,hother j e];exact h.cur j hj
 | true =>
  rw [zy1 rfl];have hj:join ((r.pieces++[(⟨r.cum+1,c⟩:zay)]).filter (Rcv.zeh k (T k) true))=some (U k++[c.data]).flatten:=by
   rw [hf];have hcur:=h.cur k hk;have hdat:((r.pieces.filter (Rcv.zeh k (T k) true)).map fun p=>p.chunk.data)=U k:=by
    have:=congrArg (List.map Prod.snd) hcur;rw [zy95] at this;rw [show ((r.pieces.filter (Rcv.zeh k (T k) true)).map fun p=>p.chunk.data)=(r.pieces.filter (Rcv.zeh k (T k) true)).map (Prod.snd∘fun p:zay=>(p.chunk.part,p.chunk.data)) from rfl,this];apply zy71;intro i;rw [zy10,zy48];cases (U k)[i]?<;>rfl
   have:=yso (l:=r.pieces.filter (Rcv.zeh k (T k) true)++[⟨r.cum+1,c⟩]) zz4 fun i p hp=>by
    rw [zy6,zy57,hl];rcases Gh.ztg hp with hp | ⟨rfl,rfl⟩
    . have hi:=Gh.zgd hp
      refine ⟨?_,by rw [hopen p (zy12 hp),zy19 (by omega)]⟩;have:=congrArg (fun l=>l[i]?) hcur;simp only [zy10,zy48,hp] at this;rw [zy3 (by omega)] at this;simp at this;exact this.1
    . exact ⟨by rw [hl];exact h4,by rw [hl];simpa using hc⟩
   rw [this,zy36,hdat];rfl
  have hdl:dlv {r with pieces:=r.pieces++[⟨r.cum+1,c⟩],cum:=r.cum+1,zau:=[]} k (tag (r.zbp[k]?.getD 0)) true=({zld {r with pieces:=r.pieces++[⟨r.cum+1,c⟩],cum:=r.cum+1,zau:=[]} k (T k) true with log:=r.log++[⟨k,T k,true,(U k++[c.data]).flatten⟩]},true):=by
   rw [htt];exact Gh.xcg _ _ _ _ hj
  have hgone:∀ p∈(r.pieces++[(⟨r.cum+1,c⟩:zay)]).filter (fun p=>!Rcv.zeh k (T k) true p),p∈r.pieces/\p.chunk.stream≠(k:Int):=by
   intro p hp;obtain ⟨g1,g2⟩:=zy91.1 hp;rcases zy17.1 g1 with g1 | g1
   . obtain ⟨j,j1,j2,j3,j4,j5⟩:=h.zeh p g1
     refine ⟨g1,fun e=>?_⟩;have:j=k:=by omega
     subst this;rw [show Rcv.zeh j (T j) true p=true by unfold Rcv.zeh;simp [j2,j3,j4]] at g2;cases g2
   . rw [zy23] at g1;subst g1;rw [hm] at g2;cases g2
  have hset:r.zbp.set k (r.zbp[k]?.getD 0+1)=(List.range S).map fun j=>((at1 T k (T k+1) j:Nat):Int):=by
   apply zy71;intro i;rw [h.zbp];by_cases e:k=i
   . subst e
     rw [zy27 (by simp;exact hk),zy10,zy10,zy85 hk];simp [at1]
   . rw [zy45 e,zy10,zy10]
     by_cases hi:i<S
     . rw [zy85 hi]
       show some (T i:Int)=some ((at1 T k (T k+1) i:Nat):Int);unfold at1;rw [zy0 fun h=>e h.symm]
     . rw [zy51 (by simp;omega)];rfl
  generalize hR:ygn {zld {r with pieces:=r.pieces++[⟨r.cum+1,c⟩],cum:=r.cum+1,zau:=[]} k (T k) true with log:=r.log++[⟨k,T k,true,(U k++[c.data]).flatten⟩]} k=R;have R1:R.zbp=(List.range S).map fun j=>((at1 T k (T k+1) j:Nat):Int):=by rw [<- hR];exact hset
  have R2:R.pieces=(r.pieces++[(⟨r.cum+1,c⟩:zay)]).filter (fun p=>!Rcv.zeh k (T k) true p):=by rw [<- hR];rfl
  have R3:R.cum=r.cum+1/\R.zau=[]/\R.log=r.log++[⟨k,T k,true,(U k++[c.data]).flatten⟩]/\R.config=r.config:=by rw [<- hR];exact ⟨rfl,rfl,rfl,rfl⟩
  have hnone:dlv R k (tag (R.zbp[k]?.getD 0)) true=(R,false):=by
   refine Gh.yjx _ _ _ _ ?_;have:R.pieces.filter (Rcv.zeh k (tag (R.zbp[k]?.getD 0)) true)=[]:=by
    rw [R2,zy112];intro p hp;have:=(hgone p hp).2;unfold Rcv.zeh;simp [this]
   rw [this];rfl
  have xaq:data r c=R:=by
   rw [hd,zhm];show (if (dlv {r with pieces:=r.pieces++[⟨r.cum+1,c⟩],cum:=r.cum+1,zau:=[]} k (tag (r.zbp[k]?.getD 0)) true).2 then turns (ygn (dlv {r with pieces:=r.pieces++[⟨r.cum+1,c⟩],cum:=r.cum+1,zau:=[]} k (tag (r.zbp[k]?.getD 0)) true).1 k) k else _)=_;rw [hdl];refine (zy1 rfl).trans ?_;show turns (ygn {zld {r with pieces:=r.pieces++[⟨r.cum+1,c⟩],cum:=r.cum+1,zau:=[]} k (T k) true with log:=r.log++[⟨k,T k,true,(U k++[c.data]).flatten⟩]} k) k=R;rw [hR,zhm,hnone];exact zy0 fun h=>by cases h
  rw [xaq];refine ⟨R3.1,R3.2.2.2,R1,fun j=>?_,R3.2.1,by rw [R3.2.2.1,h.log],fun p hp=>?_,fun j hj2=>?_⟩
  . unfold at1
    have:=h.small j;split<;>omega
  . rw [R2] at hp
    obtain ⟨g1,g2⟩:=hgone p hp;obtain ⟨j,j1,j2,j3,j4,j5⟩:=h.zeh p g1;have:j≠k:=fun e=>g2 (by rw [j2,e])
    exact ⟨j,j1,j2,by rw [j3];unfold at1;rw [zy0 this],j4,j5⟩
  . rw [R2]
    unfold at1;by_cases e:j=k
    . subst e
      rw [zy1 rfl,zy1 rfl];have:((r.pieces++[(⟨r.cum+1,c⟩:zay)]).filter (fun p=>!Rcv.zeh j (T j) true p)).filter (Rcv.zeh j ((T j+1:Nat):Int) true)=[]:=by
       rw [zy112];intro p hp;have:=(hgone p hp).2;unfold Rcv.zeh;simp [this]
      rw [this];rfl
    . rw [zy0 e,zy0 e,List.filter_filter]
      have:(r.pieces++[(⟨r.cum+1,c⟩:zay)]).filter (fun p=>Rcv.zeh j (T j) true p&&!Rcv.zeh k (T k) true p)=(r.pieces++[(⟨r.cum+1,c⟩:zay)]).filter (Rcv.zeh j (T j) true):=by
       refine List.filter_congr fun p _=>?_
       cases h6:Rcv.zeh j (T j) true p with
       | false=>rfl
       | true =>
        have h7:=(Gh.yxz.1 h6).1;rw [show Rcv.zeh k (T k) true p=false by unfold Rcv.zeh;simp [h7];omega];rfl
      rw [this,hother j e];exact h.cur j hj2
theorem RI.tot_cur (h:RI S T U lg r) {k:Nat} (hk:k<S):tot (r.pieces.filter (Rcv.zeh k (T k) true))=((U k).map List.length).sum:=by
 have:=congrArg (List.map fun x:Int×List UInt8=>x.2.length) (h.cur k hk);unfold tot;rw [zy95] at this;rw [show ((r.pieces.filter (Rcv.zeh k (T k) true)).map fun p=>p.chunk.data.length)=(r.pieces.filter (Rcv.zeh k (T k) true)).map ((fun x:Int×List UInt8=>x.2.length)∘fun p:zay=>(p.chunk.part,p.chunk.data)) from rfl,this];congr 1;apply zy71;intro i;rw [zy10,zy48,zy10];cases (U k)[i]?<;>rfl
theorem RI.held1 (h:RI 1 T U lg r):tot r.pieces=((U 0).map List.length).sum:=by
 rw [<- h.tot_cur (by decide:0<1)];congr 1;refine (zy84.2 fun p hp=>?_).symm;obtain ⟨j,j1,j2,j3,j4,j5⟩:=h.zeh p hp;have:j=0:=by omega
 subst this;unfold Rcv.zeh;simp [j2,j3,j4]
theorem RI.held2 (h:RI 2 T U lg r):tot r.pieces=((U 0).map List.length).sum+((U 1).map List.length).sum:=by
 rw [<- h.tot_cur (by decide:0<2),<- h.tot_cur (by decide:1<2)];have e:∀ l:List zay,(∀ p∈l,p∈r.pieces)->tot l=tot (l.filter (Rcv.zeh (0:Nat) (T 0) true))+tot (l.filter (Rcv.zeh (1:Nat) (T 1) true)):=by
  intro l
  induction l with
  | nil=>intro _;rfl
  | cons p l ih =>
   intro hl;have:=ih fun q hq=>hl q (by simp [hq])
   obtain ⟨j,j1,j2,j3,j4,j5⟩:=h.zeh p (hl p zz4);rw [zev,this,zy58,zy58];rcases (show j=0\/j=1 by omega) with rfl | rfl
   . rw [zy1 (by unfold Rcv.zeh;simp [j2,j3,j4]),zy0 (by unfold Rcv.zeh;simp [j2]),zev];omega
   . rw [zy0 (by unfold Rcv.zeh;simp [j2]),zy1 (by unfold Rcv.zeh;simp [j2,j3,j4]),zev];omega
 exact e r.pieces fun _ h=>h
theorem xcz (r:Receiver) (c:Chunk) (h:zdf r.cum c.tag<=r.cum):forward r c=r:=by
 unfold forward;rw [zy1 (.inr h)]
theorem yxb (h:RI 1 T U lg r) (hT:T 0=0) (hU:U 0=[]) {c:Chunk} (h1:c.kind=3) (hs:c.zbw=[⟨0,0,true⟩]) {n:Int} (hn:zdf r.cum c.tag=n) (hg:r.cum<n) :
 (forward r c).cum=n/\(forward r c).config=r.config/\RI 1 (at1 T 0 1) U lg (forward r c):=by
 have hp:r.pieces=[]:=by
  apply List.eq_nil_iff_forall_not_mem.2;intro p hp;obtain ⟨j,j1,j2,j3,j4,j5⟩:=h.zeh p hp;have:j=0:=by omega
  subst this;have h2:=h.cur 0 zz5;rw [hU] at h2;have h3:p∈r.pieces.filter (Rcv.zeh (0:Nat) (T 0) true):=zy91.2 ⟨hp,by unfold Rcv.zeh;simp [j2,j3,j4]⟩;rw [zy123.1 h2] at h3;cases h3
 have ht:r.zbp=[0]:=by rw [h.zbp];show [((T 0:Nat):Int)]=[0];rw [hT];rfl
 have hnone:∀ (x:Receiver) (s m:Int),x.pieces=[]->dlv x s m true=(x,false):=fun x s m hx=>Gh.yjx _ _ _ _ (by rw [hx];rfl)
 have hf:forward r c={r with cum:=n,zau:=[],zbp:=[1]}:=by
  unfold forward;rw [zy0 (by rw [hn];omega),hs,hn,h.zau];show zlt {r with cum:=n,zau:=[]} ⟨0,0,true⟩=_;unfold zlt;rw [zy0 (by show ¬ ((0:Int)<0\/(r.zbp.length:Int)<=0);rw [ht];decide),zy0 zz5];show turns (ybm {r with cum:=n,zau:=[]} 0 (zdf (r.zbp[0]?.getD 0) 0)) 0=_;have e1:zdf (r.zbp[0]?.getD 0) 0=0:=by rw [ht];rfl
  rw [e1];have e2:ybm {r with cum:=n,zau:=[]} 0 0={r with cum:=n,zau:=[],zbp:=[1]}:=by
   unfold ybm;rw [show ((0:Int)+1-((({r with cum:=n,zau:=[]}:Receiver).zbp)[0]?.getD 0)).toNat=1 by show ((0:Int)+1-(r.zbp[0]?.getD 0)).toNat=1;rw [ht];rfl];show pass {r with cum:=n,zau:=[]} 0=_;unfold pass;rw [hnone {r with cum:=n,zau:=[]} _ _ hp];show ygn (if (false=true) then _ else zld {r with cum:=n,zau:=[]} 0 _ true) 0=_;rw [zy0 (by decide)];unfold ygn zld;show ({r with cum:=n,zau:=[],pieces:=r.pieces.filter _,zbp:=r.zbp.set 0 (r.zbp[0]?.getD 0+1)}:Receiver)=_;rw [hp,ht];rfl
  rw [e2,zhm,hnone {r with cum:=n,zau:=[],zbp:=[1]} _ _ hp];exact zy0 fun h=>by cases h
 rw [hf];refine ⟨rfl,rfl,by show ([1]:List Int)=[((at1 T 0 1 0:Nat):Int)];rfl,fun k=>?_,rfl,h.log,fun p hp2=>?_,fun k hk=>?_⟩
 . unfold at1
   have:=h.small k;split<;>omega
 . have hp2:p∈r.pieces:=hp2
   rw [hp] at hp2;cases hp2
 . have:k=0:=by omega
   subst this;show (r.pieces.filter _).map _=_;rw [hp,hU];rfl
theorem xgm {c:Config} {S:Nat} (hS:c.streams=(S:Int)):RI S (fun _=>0) (fun _=>[]) [] (ylu c):=by
 refine ⟨?_,fun _=>by omega,rfl,rfl,fun p hp=>by simp [ylu] at hp,fun k _=>rfl⟩;show List.replicate (max c.streams 0).toNat 0=_;rw [hS,show (max ((S:Nat):Int) 0).toNat=S by omega];exact (List.eq_replicate_iff.2 ⟨by simp,fun b hb=>by obtain ⟨k,-,rfl⟩:=zy28.1 hb;rfl⟩).symm
end
end Tp
namespace Tp
inductive GP where
 | data (l:List Nat)
 | zfq (c:Nat)
structure GM where
 todo:List Nat
 out:List (Nat×Nat)
 a:Nat
 R:Nat
 way:List GP
 win:Nat
 slow:Nat
 par:Nat
 al:Nat
 wait:Nat
 errs:Nat
 fwd:Bool
 act:Nat
 ok:Bool
namespace GM
noncomputable def zak (l:List (Nat×Nat)):Nat:=List.rec (motive:=fun _=>Nat) 0 (fun x _ ih=>bif Nat.beq x.2 1 then Nat.add x.1 ih else ih) l
noncomputable def lead (l:List (Nat×Nat)):Nat:=List.rec (motive:=fun _=>Nat) 0 (fun x _ ih=>bif Nat.beq x.2 4 then Nat.succ ih else 0) l
noncomputable def again (win i f:Nat) (l:List (Nat×Nat)):List (Nat×Nat)×Nat×List (Nat×Nat):=List.rec (motive:=fun _=>Nat->Nat->List (Nat×Nat)×Nat×List (Nat×Nat)) (fun _ f=>([],f,[])) (fun x _ ih i f=>bif Nat.beq x.2 3&&Nat.blt f win then ((x.1,1)::(ih (Nat.succ i) (Nat.add f x.1)).1,(ih (Nat.succ i) (Nat.add f x.1)).2.1,(Nat.mul 2 i,Nat.add 9 x.1)::(ih (Nat.succ i) (Nat.add f x.1)).2.2) else (x::(ih (Nat.succ i) f).1,(ih (Nat.succ i) f).2.1,(ih (Nat.succ i) f).2.2)) l i f
noncomputable def fresh (win len k f:Nat) (l:List Nat):Nat×Nat×Bool:=List.rec (motive:=fun _=>Nat->Nat->Nat×Nat×Bool) (fun _ f=>(0,f,true)) (fun n _ ih k f=>bif Nat.blt f win&&Nat.blt (Nat.add len k) 60 then (bif Nat.beq f 0||Nat.ble (Nat.add f n) 280 then (Nat.succ (ih (Nat.succ k) (Nat.add f n)).1,(ih (Nat.succ k) (Nat.add f n)).2.1,(ih (Nat.succ k) (Nat.add f n)).2.2) else (0,f,false)) else (0,f,true)) l k f
noncomputable def pack (z:Nat) (cur:List Nat) (l:List (Nat×Nat)):List GP:=List.rec (motive:=fun _=>Nat->List Nat->List GP) (fun _ cur=>match cur with | []=>[] | _=>[.data cur]) (fun x _ ih z cur=>bif Nat.ble (Nat.add z x.2) 60 then ih (Nat.add z x.2) (cur++[x.1]) else .data cur::ih x.2 [x.1]) l z cur
noncomputable def number (i:Nat) (l:List Nat):List (Nat×Nat):=List.rec (motive:=fun _=>Nat->List (Nat×Nat)) (fun _=>[]) (fun n _ ih i=>(Nat.mul 2 i,Nat.add 9 n)::ih (Nat.succ i)) l i
noncomputable def zib (g:GM):GM×List (Nat×Nat) :=
 bif g.fwd&&!Nat.beq (lead g.out) 0 then ({g with fwd:=false,al:=bif Nat.beq g.al 0 then g.wait else g.al},[(2*(g.a+lead g.out)+1,8)]) else (g,[])
noncomputable def zho (g:GM):GM×List (Nat×Nat):=({g with out:=(again g.win g.a (zak g.out) g.out).1},(again g.win g.a (zak g.out) g.out).2.2)
noncomputable def yjr (g:GM):Nat×Nat×Bool:=fresh g.win g.out.length 0 (zak g.out) g.todo
noncomputable def yqe (g:GM):GM×List (Nat×Nat):=({g with todo:=g.todo.drop (yjr g).1,out:=g.out++(g.todo.take (yjr g).1).map fun n=>(n,1),ok:=g.ok&&(yjr g).2.2},number (g.a+g.out.length) (g.todo.take (yjr g).1))
noncomputable def ygj (g:GM):GM:={g with al:=bif Nat.beq (zak g.out) 0 then (bif Nat.beq (lead g.out) 0 then 0 else g.al) else (bif Nat.beq g.al 0 then g.wait else g.al)}
noncomputable def xhn (g:GM) (ps:List GP):GM:={g with way:=g.way++ps,ok:=g.ok&&Nat.ble (g.way.length+ps.length) 40}
noncomputable def emG (g:GM):List (Nat×Nat):=(zib g).2++(zho (zib g).1).2++(yqe (zho (zib g).1).1).2
noncomputable def zfl (g:GM):GM:=xhn (ygj (yqe (zho (zib g).1).1).1) (pack 0 [] (emG g))
noncomputable def bytes (l:List (Nat×Nat)):Nat:=List.rec (motive:=fun _=>Nat) 0 (fun x _ ih=>bif Nat.beq x.2 4 then ih else Nat.add x.1 ih) l
noncomputable def zwi (g:GM) (c:Nat):GM :=
 {g with out:=g.out.drop (c-g.a),a:=c,fwd:=bif Nat.beq (c-g.a) 0||Nat.beq (lead (g.out.drop (c-g.a))) 0 then g.fwd else true,ok:=g.ok&&Nat.ble g.a c&&Nat.ble (c-g.a) g.out.length&&(Nat.beq g.act 0||(g.out.take (c-g.a)).all fun x=>!Nat.beq x.2 3)&&Nat.ble g.win 100000&&Nat.ble g.par 100000}
noncomputable def zvw (g:GM) (b:Nat):GM:=bif Nat.beq b 0 then g else
 bif Nat.ble g.win g.slow then {g with errs:=0,wait:=3,al:=0,win:=g.win+min b 4} else
 bif Nat.ble g.win (g.par+b) then {g with errs:=0,wait:=3,al:=0,par:=g.par+b-g.win,win:=g.win+4} else
 {g with errs:=0,wait:=3,al:=0,par:=g.par+b}
noncomputable def zkc (g:GM) (c:Nat):GM:=zvw (zwi g c) (bytes (g.out.take (c-g.a)))
noncomputable def items (h:Nat) (l:List Nat) (x:Nat×Bool):Nat×Bool:=List.rec (motive:=fun _=>Nat×Bool->Nat×Bool) (fun x=>x) (fun c _ ih x=>bif Nat.beq (Nat.mod c 2) 1 then (bif Nat.ble (Nat.div c 2) x.1 then ih x else ih (Nat.div c 2,x.2&&(Nat.beq x.1 0&&Nat.beq (Nat.div c 2) h))) else (bif Nat.beq (Nat.div c 2) x.1 then ih (Nat.succ x.1,x.2&&Nat.ble h x.1) else ih (x.1,x.2&&Nat.ble (Nat.div c 2) x.1))) l x
noncomputable def zfw (h:Nat) (g:GM):GM:=match g.way with
 | []=>g
 | .data l::w=>zfl (xhn {g with R:=(items h l (g.R,g.ok)).1,way:=w,ok:=(items h l (g.R,g.ok)).2} [.zfq (items h l (g.R,g.ok)).1])
 | .zfq c::w=>zfl (zkc {g with way:=w} c)
noncomputable def drop (g:GM):GM:=match g.way with
 | []=>g
 | _::w=>zfl {g with way:=w}
noncomputable def zhw (l:List (Nat×Nat)):List (Nat×Nat):=l.map fun x=>bif Nat.beq x.2 1 then (x.1,3) else x
noncomputable def zij (two:Bool) (g:GM):GM:=match g.al with
 | 0=>g
 | 1=>bif two&&Nat.beq g.act 0&&Nat.ble 3 g.errs then {g with out:=zhw g.out,fwd:=bif Nat.beq (lead (zhw g.out)) 0 then g.fwd else true,win:=8,slow:=128,par:=0,al:=0,wait:=3,errs:=0,act:=1}
  else {g with out:=zhw g.out,fwd:=bif Nat.beq (lead (zhw g.out)) 0 then g.fwd else true,win:=4,slow:=max (g.win / 2) 16,par:=0,al:=0,wait:=min (2*g.wait) 24,errs:=g.errs+1,ok:=g.ok&&(!two||Nat.ble (g.errs+1) 3)&&Nat.ble g.win 100000&&Nat.ble g.errs 1000}
 | n+2=>{g with al:=n+1}
noncomputable def tick (two:Bool) (g:GM):GM:=zfl (zij two g)
noncomputable def comes (h:Nat):Nat->GM->GM
 | 0,g=>g
 | n+1,g=>comes h n (zfw h g)
noncomputable def round (h:Nat) (g:GM):GM:=tick false (comes h g.way.length g)
noncomputable def busy (g:GM):Bool:=!(g.todo.isEmpty&&g.out.isEmpty&&g.way.isEmpty)
noncomputable def settle (h:Nat):Nat->GM->GM
 | 0,g=>g
 | n+1,g=>bif busy g then settle h n (round h g) else g
noncomputable def new (todo:List Nat):GM:=⟨todo,[],0,0,[],8,128,0,0,3,0,false,0,true⟩
noncomputable def xhj:Nat->Nat->List Nat
 | 0,_=>[]
 | k+1,n=>bif Nat.ble n 4 then [n] else 4::xhj k (n-4)
noncomputable def cut (n:Nat):List Nat:=xhj n n
noncomputable def zed (g:GM):Bool:=g.ok&&!busy g&&Nat.beq g.R g.a
noncomputable def send (g:GM) (l:List Nat):GM:=zfl {g with todo:=g.todo++l}
theorem zdw (x:Nat×Nat) (l:List (Nat×Nat)):zak (x::l)=(if x.2=1 then x.1 else 0)+zak l:=by
 show (bif Nat.beq x.2 1 then Nat.add x.1 (zak l) else zak l)=_;by_cases h:x.2=1
 . rw [show Nat.beq x.2 1=true by rw [h];rfl,zy1 h];rfl
 . rw [show Nat.beq x.2 1=false by cases hb:Nat.beq x.2 1 with | false=>rfl | true=>exact absurd (zy4 hb) h,zy0 h,zy59];rfl
theorem zhe {a b:Nat} (h:a≠b):Nat.beq a b=false:=by cases hb:Nat.beq a b with | false=>rfl | true=>exact absurd (zy4 hb) h
theorem zfk {a b:Nat} (h:a=b):Nat.beq a b=true:=by rw [h];exact Nat.beq_refl b
theorem zwx (l m:List (Nat×Nat)):zak (l++m)=zak l+zak m:=by
 induction l with
 | nil=>exact (zy59 _).symm
 | cons x l ih=>rw [zy38,zdw,zdw,ih,zy102]
theorem yxx {x:Nat×Nat} {l:List (Nat×Nat)} (h:x.2=4):lead (x::l)=lead l+1:=by
 show (bif Nat.beq x.2 4 then Nat.succ (lead l) else 0)=_;rw [zfk h];rfl
theorem xdm {x:Nat×Nat} {l:List (Nat×Nat)} (h:x.2≠4):lead (x::l)=0:=by
 show (bif Nat.beq x.2 4 then Nat.succ (lead l) else 0)=_;rw [zhe h];rfl
theorem zwn (x:Nat×Nat) (l:List (Nat×Nat)):bytes (x::l)=(if x.2=4 then 0 else x.1)+bytes l:=by
 show (bif Nat.beq x.2 4 then bytes l else Nat.add x.1 (bytes l))=_;by_cases h:x.2=4
 . rw [zfk h,zy1 h,zy59];rfl
 . rw [zhe h,zy0 h];rfl
theorem zwj (win i f:Nat) (x:Nat×Nat) (l:List (Nat×Nat)):again win i f (x::l)=if x.2=3/\f<win then ((x.1,1)::(again win (i+1) (f+x.1) l).1,(again win (i+1) (f+x.1) l).2.1,(2*i,9+x.1)::(again win (i+1) (f+x.1) l).2.2) else (x::(again win (i+1) f l).1,(again win (i+1) f l).2.1,(again win (i+1) f l).2.2):=by
 show (bif Nat.beq x.2 3&&Nat.blt f win then ((x.1,1)::(again win (i+1) (f+x.1) l).1,(again win (i+1) (f+x.1) l).2.1,(2*i,9+x.1)::(again win (i+1) (f+x.1) l).2.2) else (x::(again win (i+1) f l).1,(again win (i+1) f l).2.1,(again win (i+1) f l).2.2))=_;by_cases h:x.2=3/\f<win
 . rw [zfk h.1,show Nat.blt f win=true from zy63 h.2,zy1 h];rfl
 . rw [zy0 h]
   have:(Nat.beq x.2 3&&Nat.blt f win)=false:=by
    cases hb:(Nat.beq x.2 3&&Nat.blt f win) with
    | false=>rfl
    | true =>
     rw [zy13] at hb;exact absurd ⟨zy4 hb.1,zy11 hb.2⟩ h
   rw [this];rfl
theorem zpw (win len k f n:Nat) (l:List Nat):fresh win len k f (n::l)=if f<win/\len+k<60 then (if f=0\/f+n<=280 then ((fresh win len (k+1) (f+n) l).1+1,(fresh win len (k+1) (f+n) l).2.1,(fresh win len (k+1) (f+n) l).2.2) else (0,f,false)) else (0,f,true):=by
 show (bif Nat.blt f win&&Nat.blt (Nat.add len k) 60 then (bif Nat.beq f 0||Nat.ble (Nat.add f n) 280 then ((fresh win len (k+1) (f+n) l).1+1,(fresh win len (k+1) (f+n) l).2.1,(fresh win len (k+1) (f+n) l).2.2) else (0,f,false)) else (0,f,true))=_;by_cases h:f<win/\len+k<60
 . rw [show Nat.blt f win=true from zy63 h.1,show Nat.blt (Nat.add len k) 60=true from zy63 h.2,zy1 h]
   by_cases h2:f=0\/f+n<=280
   . have:(Nat.beq f 0||Nat.ble (Nat.add f n) 280)=true:=by
      rcases h2 with h2 | h2
      . rw [zfk h2];rfl
      . rw [show Nat.ble (Nat.add f n) 280=true from zy63 h2,Bool.or_true]
     rw [this,zy1 h2];rfl
   . have:(Nat.beq f 0||Nat.ble (Nat.add f n) 280)=false:=by
      cases hb:(Nat.beq f 0||Nat.ble (Nat.add f n) 280) with
      | false=>rfl
      | true =>
       rw [zy105] at hb;exact absurd (hb.imp zy4 zy11) h2
     rw [this,zy0 h2];rfl
 . rw [zy0 h]
   have:(Nat.blt f win&&Nat.blt (Nat.add len k) 60)=false:=by
    cases hb:(Nat.blt f win&&Nat.blt (Nat.add len k) 60) with
    | false=>rfl
    | true =>
     rw [zy13] at hb;exact absurd ⟨zy11 hb.1,zy11 hb.2⟩ h
   rw [this];rfl
def zri (z:Nat):List (Nat×Nat)->Nat
 | []=>0
 | x::r=>if z+x.2<=60 then zri (z+x.2) r+1 else 0
theorem ymb:∀ (l:List (Nat×Nat)) (z:Nat) (cur:List Nat),cur≠[]->(∀ x∈l,x.2<=60)->pack z cur l=.data (cur++(l.take (zri z l)).map Prod.fst)::pack 0 [] (l.drop (zri z l))
 | [],z,cur,hc,_=>by
  cases cur with
  | nil=>exact absurd rfl hc
  | cons c cur=>rw [show zri z []=0 from rfl,List.take_nil,zy80,zy8];rfl
 | x::l,z,cur,hc,h=>by
  have ih:=fun z cur hc=>ymb l z cur hc fun y hy=>h y zz47
  show (bif Nat.ble (Nat.add z x.2) 60 then pack (z+x.2) (cur++[x.1]) l else .data cur::pack x.2 [x.1] l)=_;rw [zri];by_cases h1:z+x.2<=60
  . rw [show Nat.ble (Nat.add z x.2) 60=true from zy63 h1,zy1 h1,zy110,zy141,zy24]
    show pack (z+x.2) (cur++[x.1]) l=_;rw [ih _ _ (by simp),zy33];rfl
  . rw [show Nat.ble (Nat.add z x.2) 60=false by cases hb:Nat.ble (Nat.add z x.2) 60 with | false=>rfl | true=>exact absurd (zy11 hb) h1,zy0 h1,List.take_zero,zy151,zy80,zy8]
    show GP.data cur::pack x.2 [x.1] l=.data cur::(bif Nat.ble (Nat.add 0 x.2) 60 then pack (0+x.2) ([]++[x.1]) l else .data []::pack x.2 [x.1] l);rw [show Nat.ble (Nat.add 0 x.2) 60=true from zy63 (by have:=h x (by simp);show 0+x.2<=60;omega)];show _=GP.data cur::pack (0+x.2) [x.1] l;rw [zy59]
theorem ytr {x:Nat×Nat} {l:List (Nat×Nat)} (h:∀ y∈x::l,y.2<=60):pack 0 [] (x::l)=.data (((x::l).take (zri 0 (x::l))).map Prod.fst)::pack 0 [] ((x::l).drop (zri 0 (x::l))):=by
 have h0:0+x.2<=60:=by have:=h x zz4;omega
 show (bif Nat.ble (Nat.add 0 x.2) 60 then pack (0+x.2) ([]++[x.1]) l else .data []::pack x.2 [x.1] l)=_;rw [show Nat.ble (Nat.add 0 x.2) 60=true from zy63 h0,zri,zy1 h0,zy110,zy141,zy24];exact ymb l (0+x.2) [x.1] zz4 fun y hy=>h y zz47
theorem zdv {a b:Bool} (h:(a&&b)=true):a=true:=(zy13 _ _ ▸ h:a=true/\b=true).1
theorem zhp {a b:Bool} (h:(a&&b)=true):b=true:=(zy13 _ _ ▸ h:a=true/\b=true).2
theorem xcy (g:GM):(zib g).1.ok=g.ok:=by unfold zib;cases g.fwd&&!Nat.beq (lead g.out) 0<;>rfl
theorem yio {g:GM} (h:(zfl g).ok=true):g.ok=true/\(yjr (zho (zib g).1).1).2.2=true/\(zfl g).way.length<=40:=by
 have h1:(((zho (zib g).1).1.ok&&(yjr (zho (zib g).1).1).2.2)&&Nat.ble ((ygj (yqe (zho (zib g).1).1).1).way.length+(pack 0 [] (emG g)).length) 40)=true:=h;refine ⟨?_,zhp (zdv h1),?_⟩
 . have:=zdv (zdv h1)
   rw [<- xcy g];exact this
 . have:=zy11 (zhp h1)
   show ((ygj (yqe (zho (zib g).1).1).1).way++pack 0 [] (emG g)).length<=40;rw [zy6];exact this
end GM
end Tp
namespace Tp
open Ser Snd Pck
inductive zyl {α β:Type} (R:α->β->Prop):List α->List β->Prop where
 | nil:zyl R [] []
 | cons {x:α} {y:β} {l:List α} {m:List β} (h:R x y) (t:zyl R l m):zyl R (x::l) (y::m)
theorem zyl.len {α β:Type} {R:α->β->Prop} {l:List α} {m:List β} (h:zyl R l m):l.length=m.length:=by
 induction h with
 | nil=>rfl
 | cons _ _ ih=>simp [ih]
theorem zyl.app {α β:Type} {R:α->β->Prop} {l:List α} {m:List β} (h:zyl R l m) {l':List α} {m':List β} (h':zyl R l' m'):zyl R (l++l') (m++m'):=by
 induction h with
 | nil=>exact h'
 | cons h _ ih=>exact .cons h ih
theorem zyl.imp {α β:Type} {R Q:α->β->Prop} {l:List α} {m:List β} (h:zyl R l m) (hi:∀ x y,y∈m->R x y->Q x y):zyl Q l m:=by
 induction h with
 | nil=>exact .nil
 | cons h _ ih=>exact .cons (hi _ _ zz4 h) (ih fun x y hy=>hi x y zz47)
def zub (f:Int) (n:Nat):Chunk:=⟨3,tag (f-1+n),0,0,0,false,false,[],[],0,[⟨0,0,true⟩]⟩
def zny (f:Int) (Cs:List CH) (c:Nat):Chunk:=if c % 2=1 then zub f (c / 2) else match Cs[c / 2]? with
 | some x=>x.mk' f (c / 2)
 | none=>zub f 0
structure CH.xbk (x:CH):Prop where
 stream:x.stream<4
 mid:x.mid<60000
 part:x.part<=255
 d1:1<=x.data.length
 d4:x.data.length<=4
def zmy (Cs:List CH) (y:Nat×Nat):Prop:=(y.1 % 2=1/\y.2=8)\/(y.1 % 2=0/\∃ x,Cs[y.1 / 2]?=some x/\x.xbk/\y.2=9+x.data.length)
theorem yby {f:Int} {Cs:List CH} {i:Nat} {x:CH} (h:Cs[i]?=some x):zny f Cs (2*i)=x.mk' f i:=by
 unfold zny;rw [zy0 (by omega),show 2*i / 2=i by omega,h]
theorem ywi {f:Int} {Cs:List CH} {n:Nat}:zny f Cs (2*n+1)=zub f n:=by
 unfold zny;rw [zy1 (by omega),show (2*n+1) / 2=n by omega]
theorem ztu (n:Int):(zcg n).length=2:=rfl
theorem yid {f:Int} {i:Nat} {x:CH} (h:x.xbk):Chk.zda (x.mk' f i)=0/\(Chk.bytes (x.mk' f i)).length=9+x.data.length/\Chk.clean (x.mk' f i)=x.mk' f i:=by
 obtain ⟨h1,h2,h3,h4,h5⟩:=h;have ht:=yge (f+i);have hw:Chk.zda (x.mk' f i)=0:=by
  unfold Chk.zda CH.mk';dsimp only;rw [zy0 (by decide),zy0 (by omega),zy1 rfl,zy0 (by omega),zy0 (by omega)]
 refine ⟨hw,?_,rfl⟩;unfold Chk.bytes;rw [zy1 hw];unfold Chk.body CH.mk';simp only [if_true,zy5,zy6,ztu,zy14];omega
theorem zzh {f:Int} {n:Nat}:Chk.zda (zub f n)=0/\(Chk.bytes (zub f n)).length=8/\Chk.clean (zub f n)=zub f n:=by
 have ht:=yge (f-1+n);have hw:Chk.zda (zub f n)=0:=by
  unfold Chk.zda zub;dsimp only;rw [zy0 (by decide),zy0 (by omega),zy0 (by decide),zy0 (by decide),zy0 (by decide)];rfl
 refine ⟨hw,?_,rfl⟩;unfold Chk.bytes;rw [zy1 hw];unfold Chk.body zub;dsimp only;rw [zy0 (by decide),zy0 (by decide)];simp [Chk.skipBytes,ztu]
theorem zll {f:Int} {Cs:List CH} {y:Nat×Nat} (h:zmy Cs y):Chk.zda (zny f Cs y.1)=0/\(Chk.bytes (zny f Cs y.1)).length=y.2/\Chk.clean (zny f Cs y.1)=zny f Cs y.1/\y.2<=13:=by
 rcases h with ⟨h1,h2⟩ | ⟨h1,x,h2,h3,h4⟩
 . unfold zny
   rw [zy1 h1,h2];exact ⟨zzh.1,zzh.2.1,zzh.2.2,by decide⟩
 . unfold zny
   rw [zy0 (by omega),h2,h4];have:=h3.d4;exact ⟨(yid h3).1,(yid h3).2.1,(yid h3).2.2,by omega⟩
def chs (f:Int) (Cs:List CH) (l:List (Nat×Nat)):List Chunk:=l.map fun y=>zny f Cs y.1
theorem yra {f:Int} {Cs:List CH}:∀ (l:List (Nat×Nat)) (n k:Nat),n<=60->(∀ y∈l,zmy Cs y)->zft 60 n k (chs f Cs l)=((k+GM.zri n l:Nat):Int)
 | [],n,k,_,_=>rfl
 | y::l,n,k,hn,h=>by
  obtain ⟨h1,h2,h3,h4⟩:=zll (f:=f) (h y zz4);show zft 60 n k (zny f Cs y.1::chs f Cs l)=_;rw [zft,h2,GM.zri];by_cases c:n+y.2<=60
  . rw [zy0 (by omega),zy1 c,yra l (n+y.2) (k+1) c fun z hz=>h z (by simp [hz])]
    congr 1;omega
  . rw [zy1 (by omega),zy0 c];rfl
theorem zyw {f:Int} {Cs:List CH}:∀ {l:List (Nat×Nat)},(∀ y∈l,zmy Cs y)->zcb (chs f Cs l)=0/\(chs f Cs l).map Chk.clean=chs f Cs l/\(zbf (chs f Cs l)).length=(l.map Prod.snd).sum
 | [],_=>⟨rfl,rfl,rfl⟩
 | y::l,h=>by
  obtain ⟨h1,h2,h3,h4⟩:=zll (f:=f) (h y zz4);obtain ⟨i1,i2,i3⟩:=zyw (f:=f) (l:=l) fun z hz=>h z (by simp [hz])
  refine ⟨?_,?_,?_⟩
  . show zcb (zny f Cs y.1::chs f Cs l)=0
    rw [zcb,zy0 (fun hc=>hc h1),i1]
  . show Chk.clean (zny f Cs y.1)::(chs f Cs l).map Chk.clean=zny f Cs y.1::chs f Cs l
    rw [h3,i2]
  . show (zbf (zny f Cs y.1::chs f Cs l)).length=_
    unfold zbf at i3 ⊢;rw [zy130,zy6,h2,i3,zy24,zy100]
theorem yrb:∀ (l:List (Nat×Nat)) (z:Nat),z<=60->z+((l.take (GM.zri z l)).map Prod.snd).sum<=60
 | [],z,h=>by simpa [GM.zri] using h
 | y::l,z,h=>by
  rw [GM.zri];by_cases c:z+y.2<=60
  . rw [zy1 c,zy110,zy24,zy100]
    have:=yrb l (z+y.2) c;omega
  . rw [zy0 c];simpa using h
def xhx (f:Int) (Cs:List CH) (path:Nat) (p:zbb):GP->Prop
 | .data l=>p.back=false/\p.path=(path:Int)/\zgq p.bytes=(l.map (zny f Cs),0)
 | .zfq c=>p.back=true/\p.path=(path:Int)/\∃ ch,zgq p.bytes=([ch],0)/\ch.kind=2/\ch.tag=tag (f-1+c)/\ch.zau=[]/\280<=ch.room
theorem yot {f:Int} {Cs:List CH} {l:List (Nat×Nat)} (hl:l≠[]) (h:∀ y∈l,zmy Cs y):zgq (zbf (chs f Cs l))=(chs f Cs l,0):=by
 obtain ⟨h1,h2,h3⟩:=zyw (f:=f) h;have hne:(zbf (chs f Cs l)).length≠0:=by
  rw [h3];cases l with
  | nil=>exact absurd rfl hl
  | cons y l =>
   rcases h y zz4 with ⟨-,e⟩ | ⟨-,x,-,-,e⟩
   . rw [zy24,zy100];omega
   . rw [zy24,zy100];omega
 unfold zgq;rw [zy0 hne,zls (zy22 _) h1,h2]
theorem yeq {f:Int} {Cs:List CH} {path:Nat}:∀ (N:Nat) (l:List (Nat×Nat)),l.length<=N->(∀ y∈l,zmy Cs y)->zyl (xhx f Cs path) (zgm 60 path N (chs f Cs l)) (GM.pack 0 [] l)
 | 0,l,hN,h=>by
  have:l=[]:=zy68.1 zz0;subst this;exact .nil
 | N+1,[],_,_=>.nil
 | N+1,y::l,hN,h=>by
  have hy:=(zll (f:=f) (h y zz4)).2.2.2;have hk:GM.zri 0 (y::l)=GM.zri (0+y.2) l+1:=by rw [GM.zri,zy1 (by omega)]
  have hfit:=yra (f:=f) (y::l) 0 0 zz5 h;have hroom:(zce 60 (chs f Cs (y::l))).toNat=GM.zri 0 (y::l):=by
   unfold zce;rw [show zft 60 0 0 (chs f Cs (y::l))=_ from hfit];split<;>omega
  rw [GM.ytr fun z hz=>by have:=(zll (f:=f) (h z hz)).2.2.2;omega];unfold zgm;rw [zy0 (by simp [chs])];have htake:(chs f Cs (y::l)).take (GM.zri 0 (y::l))=chs f Cs ((y::l).take (GM.zri 0 (y::l))):=by unfold chs;rw [zy119]
  have hdrop:(chs f Cs (y::l)).drop (GM.zri 0 (y::l))=chs f Cs ((y::l).drop (GM.zri 0 (y::l))):=by unfold chs;rw [zy101]
  have hm:∀ z∈(y::l).take (GM.zri 0 (y::l)),zmy Cs z:=fun z hz=>h z (zy65 hz)
  have hne:(y::l).take (GM.zri 0 (y::l))≠[]:=by rw [hk];simp
  obtain ⟨c1,c2,c3⟩:=zyw (f:=f) hm;have hsum:=yrb (y::l) 0 zz5;have hpb:zde (chs f Cs ((y::l).take (GM.zri 0 (y::l)))) 60=(zbf (chs f Cs ((y::l).take (GM.zri 0 (y::l)))),0):=by
   unfold zde;rw [zy0 (by unfold chs;rw [zy2];intro e;exact hne (zy68.1 e)),zy0 (fun hc=>hc c1),zy0 (by rw [c3];omega)]
  have h1:zmt 60 path (chs f Cs (y::l))=[⟨path,false,zbf (chs f Cs ((y::l).take (GM.zri 0 (y::l))))⟩]:=by
   unfold zmt;rw [hroom,htake,hpb,zy1 rfl]
  rw [h1,hroom,hdrop];refine .cons ⟨rfl,rfl,?_⟩ (yeq N _ zz19 fun z hz=>h z (zy81 hz));rw [yot hne hm];unfold chs;rw [zy95];rfl
end Tp
namespace Tp
open Ser Snd
def zmz (k mid:Nat):Nat->Nat->List UInt8->List CH
 | 0,_,_=>[]
 | n+1,p,d=>if d.length<=4 then [⟨k,mid,p,true,d⟩] else ⟨k,mid,p,false,d.take 4⟩::zmz k mid n (p+1) (d.drop 4)
theorem yce {k mid:Nat}:∀ (n m p:Nat) (d:List UInt8),d.length<=n->d.length<=m->1<=d.length->zmz k mid n p d=zmz k mid m p d
 | 0,m,p,d,h1,h2,h3=>by omega
 | n+1,0,p,d,h1,h2,h3=>by omega
 | n+1,m+1,p,d,h1,h2,h3=>by
  rw [zmz,zmz];split
  . rfl
  . rw [yce n m (p+1) (d.drop 4) (by rw [zy34];omega) zz19 zz19]
def xgk (mids:List Int) (m:zaf):Int:=if m.mid<0 then mids[m.message.stream.toNat]?.getD 0 else m.mid
def yic (mids:List Int) (m:zaf):List Int:=if m.mid<0 then setAt mids m.message.stream.toNat (fun n=>W (n+1)) else mids
def zje:List Int->List zaf->List CH
 | _,[]=>[]
 | mids,m::q=>zmz m.message.stream.toNat (xgk mids m).toNat m.message.data.length m.parts.toNat (m.message.data.drop m.sent.toNat)++zje (yic mids m) q
def zpn (turns:Int) (q:List zaf):List zaf:=if turns=4 then (q.filter fun m=>decide (m.message.stream=0))++(q.filter fun m=>decide (m.message.stream=1)) else q
def rest (s:zab):List CH:=zje s.mids (zpn s.config.turns s.queue)
def zig:List Int->List zaf->List Int
 | mids,[]=>mids
 | mids,m::q=>zig (yic mids m) q
structure QC (E:List Int) (s:zab):Prop where
 turns:s.config.turns=1\/s.config.turns=4/\s.config.streams=2
 part:s.config.part=4
 ord:∀ m∈s.queue,m.message.ordered=true
 mids:∀ n∈s.mids,0<=n
 ends:zig s.mids (zpn s.config.turns s.queue)=E
section
variable {E:List Int} {N:Nat} {s:zab}
theorem ycf {q:List zaf} {k:Nat} {m:zaf} (h:q[k]?=some m):q=q.take k++m::q.drop (k+1):=by
 obtain ⟨hk,e⟩:=zy9.1 h;rw [<- e,<- zy26 hk,zy25]
theorem ztv {q:List zaf} {k:Nat}:q.eraseIdx k=q.take k++q.drop (k+1):=zy88 q k
theorem yfi {q:List zaf} {k:Nat} {m m':zaf} (h:q[k]?=some m):q.set k m'=q.take k++m'::q.drop (k+1):=by
 have hk:=(zy9.1 h).1;rw [List.set_eq_take_append_cons_drop,zy1 hk]
theorem xcs {q:List zaf} {k:Nat} {m:zaf} (h:q[k]?=some m) {p:zaf->Bool} (hp:p m=true) (hno:∀ x∈q.take k,p x=false) :
 q.filter p=m::(q.drop (k+1)).filter p/\(q.eraseIdx k).filter p=(q.drop (k+1)).filter p/\∀ m',p m'=true->(q.set k m').filter p=m'::(q.drop (k+1)).filter p:=by
 have h0:(q.take k).filter p=[]:=zy112.2 fun x hx=>by rw [hno x hx];decide
 refine ⟨?_,?_,fun m' hm'=>?_⟩
 . conv=>lhs;rw [ycf h]
   rw [zy53,h0,zy153 hp];rfl
 . rw [ztv,zy53,h0];rfl
 . rw [yfi h,zy53,h0,zy153 hm'];rfl
theorem yww {q:List zaf} {k:Nat} {m:zaf} (h:q[k]?=some m) {p:zaf->Bool} (hp:p m=false) :
 (q.eraseIdx k).filter p=q.filter p/\∀ m',p m'=false->(q.set k m').filter p=q.filter p:=by
 have e:q.filter p=(q.take k).filter p++(q.drop (k+1)).filter p:=by
  conv=>lhs;rw [ycf h]
  rw [zy53,zy124 (by rw [hp];decide)]
 refine ⟨by rw [ztv,zy53,e],fun m' hm'=>?_⟩;rw [yfi h,zy53,zy124 (by rw [hm'];decide),e]
theorem xes {q:List zaf} {i:Nat} {p:zaf->Bool} (hi:i<q.length) (h:∀ j (hj:j<i),p (q[j]'(Nat.lt_trans hj hi))=false):∀ x∈q.take i,p x=false:=by
 intro x hx;obtain ⟨j,hj⟩:=zy61 hx;rw [zy46] at hj;split at hj
 . rename_i hji
   rw [zy3 (by omega)] at hj;cases hj;exact h j hji
 . cases hj
theorem ygh (h:SI N s) (hc:QC E s) (hq:s.queue≠[]):∃ (k:Nat) (m:zaf) (L:List zaf),zdi s=k/\s.queue[k]?=some m/\zpn s.config.turns s.queue=m::L/\zpn s.config.turns (s.queue.eraseIdx k)=L /\
 ∀ m':zaf,m'.message=m.message->zpn s.config.turns (s.queue.set k m')=m'::L:=by
 have hhad:=h.nhad;have hw:=zcn h.cfg;have hql:(s.queue.length:Int)≠0:=by have:=zy32.2 hq;omega
 rcases hc.turns with ht | ⟨ht,h2⟩
 . cases hqq:s.queue with
   | nil=>exact absurd hqq hq
   | cons m L =>
    refine ⟨0,m,L,?_,rfl,by rw [ht];rfl,by rw [ht];rfl,fun m' _=>by rw [ht];rfl⟩;unfold zdi Sch.next;rw [zy0 hql,zy0 (by omega),ht];rfl
 . have hto:zdi s=Sch.zfg s.queue 0 2:=by
    unfold zdi Sch.next;rw [zy0 hql,zy0 (by omega),ht,zy0 (by decide),zy0 (by decide),zy1 rfl,show s.sched.had.length=2 by omega]
   have hst:∀ m∈s.queue,m.message.stream=0\/m.message.stream=1:=fun m hm=>by have:=(h.queue m hm).st0;have:=(h.queue m hm).st1;omega
   have ho:∀ q,zpn s.config.turns q=(q.filter fun m=>decide (m.message.stream=0))++(q.filter fun m=>decide (m.message.stream=1)):=fun q=>by unfold zpn;rw [zy1 ht]
   by_cases c1:Sch.first s.queue 0>=0
   . obtain ⟨i,h1,e,h3,h4⟩:=Sch.yli (p:=fun m:zaf=>m.message.stream==0) (l:=s.queue) (k:=0) c1
     have hm:s.queue[i]?=some s.queue[i]:=zy3 h1;have hm0:(s.queue[i]).message.stream=0:=by simpa using h3
     have hno:∀ x∈s.queue.take i,(decide (x.message.stream=0))=false:=xes h1 fun j hj=>by have:=h4 j hj;simpa using this
     obtain ⟨f1,f2,f3⟩:=xcs hm (p:=fun m=>decide (m.message.stream=0)) (by simpa using hm0) hno;obtain ⟨g1,g2⟩:=yww hm (p:=fun m=>decide (m.message.stream=1)) (by simp [hm0]);refine ⟨i,s.queue[i],((s.queue.drop (i+1)).filter fun m=>decide (m.message.stream=0))++(s.queue.filter fun m=>decide (m.message.stream=1)),?_,hm,by rw [ho,f1,zy38],by rw [ho,f2,g1],fun m' hm'=>by rw [ho,f3 m' (by simp [hm',hm0]),g2 m' (by simp [hm',hm0]),zy38]⟩;rw [hto,Sch.zfg,zy1 (show Sch.first s.queue ((0:Nat):Int)>=0 from c1)];show zbq (fun m:zaf=>m.message.stream==0) 0 s.queue=_;rw [e];omega
   . have hno:∀ x∈s.queue,(x.message.stream==0)=false:=Sch.ylh (p:=fun m:zaf=>m.message.stream==0) (k:=0) (l:=s.queue) (by show Sch.first s.queue 0<0;omega)
     have hall:∀ q:List zaf,(∀ x∈q,x.message.stream=1)->zpn s.config.turns q=q:=fun q hq1=>by
      rw [ho,zy112.2 fun x hx=>by simp [hq1 x hx],zy84.2 fun x hx=>by simp [hq1 x hx]];rfl
     have h1:∀ x∈s.queue,x.message.stream=1:=fun x hx=>(hst x hx).resolve_left fun e=>by have:=hno x hx;simp [e] at this
     cases hqq:s.queue with
     | nil=>exact absurd hqq hq
     | cons m L =>
      rw [hqq] at h1;refine ⟨0,m,L,?_,rfl,hall _ h1,hall L fun x hx=>h1 x zz38,fun m' hm'=>hall (m'::L) fun x hx=>?_⟩
      . rw [hto,Sch.zfg,zy0 (show ¬ Sch.first s.queue ((0:Nat):Int)>=0 from c1),Sch.zfg,hqq]
        have e1:Sch.first (m::L) ((0+1:Nat):Int)=0:=by
         show zbq (fun x:zaf=>x.message.stream==1) 0 (m::L)=0;rw [zbq,zy1 (by simp [h1 m (by simp)])];rfl
        rw [e1,zy1 (by decide)];rfl
      . rcases zy18.1 hx with rfl | hx
        . rw [hm'];exact h1 m zz4
        . exact h1 x zz38
theorem yta (h:SI N s) (hc:QC E s) {x:CH} {r:List CH} (hr:rest s=x::r) (hx:x.mid<60000):∃ (k:Nat) (m:zaf),zdi s=k/\s.queue[k]?=some m/\many s m=x.data.length /\
 cut s m (many s m)=⟨1,tag s.next,x.stream,x.mid,x.part,x.last,true,x.data,[],0,[]⟩/\rest (zwt s k m)=r/\QC E (zwt s k m):=by
 have hq:s.queue≠[]:=by
  intro e;unfold rest zpn at hr;rw [e] at hr;split at hr<;>cases hr
 obtain ⟨k,m,L,h1,h2,h3,h4,h5⟩:=ygh h hc hq;have hm:=zy12 h2;have q:=h.queue m hm;have q0:=q.st0;have q1:=q.left;have q2:=q.parts;have q3:=q.sent;have q4:=q.len2;rw [hc.part] at q3;have hord:=hc.ord m hm;have hmid:xgk s.mids m=zcd s m:=by
  unfold xgk zcd zif;rw [hord];show _=if m.mid<0 then s.mids[(m.message.stream+0).toNat]?.getD 0 else m.mid
  rw [Int.add_zero]
 have hmids:yic s.mids m=zdp s m:=by
  unfold yic zdp zif;rw [hord];show _=if m.mid<0 then setAt s.mids (m.message.stream+0).toNat fun n=>W (n+1) else s.mids
  rw [Int.add_zero]
 have hpos:0<=zcd s m:=by
  unfold zcd;split
  . cases hz:s.mids[zif s m]? with
    | none=>exact zy99 _
    | some z=>exact hc.mids z (zy12 hz)
  . omega
 have hr1:zmz m.message.stream.toNat (zcd s m).toNat m.message.data.length m.parts.toNat (m.message.data.drop m.sent.toNat)++zje (zdp s m) L=x::r:=by
  rw [<- hmid,<- hmids];unfold rest at hr;rw [h3] at hr;exact hr
 have hE:zig (zdp s m) L=E:=by
  have:=hc.ends;rw [h3,zig,hmids] at this;exact this
 have hdl:(m.message.data.drop m.sent.toNat).length=m.message.data.length-m.sent.toNat:=zy34 ..;obtain ⟨F,hF⟩:∃ F,m.message.data.length=F+1:=⟨m.message.data.length-1,by omega⟩
 have hWp:W (m.parts+1)=m.parts+1:=zbh zz0 zz0;have hmc:∀ n∈zdp s m,0<=n:=by
  intro n hn;unfold zdp at hn;by_cases hneg:m.mid<0
  . rw [zy1 hneg] at hn
    unfold setAt at hn;split at hn
    . exact hc.mids n hn
    . rename_i y hy
      rcases zy56 hn with hn | rfl
      . exact hc.mids n hn
      . have hy0:=hc.mids y (zy12 hy)
        have hym:zcd s m=y:=by unfold zcd;rw [zy1 hneg,hy];rfl
        have hx2:x.mid=(zcd s m).toNat:=by
         have:=hr1;rw [hF,zmz] at this;split at this
         . have:=(List.cons.inj this).1
           rw [<- this]
         . have:=(List.cons.inj this).1
           rw [<- this]
        rw [hym] at hx2;show 0<=W (y+1);rw [zbh (by omega) (by omega)];omega
  . rw [zy0 hneg] at hn
    exact hc.mids n hn
 rw [hF] at hr1;rw [zmz] at hr1;by_cases c1:(m.message.data.drop m.sent.toNat).length<=4
 . rw [zy1 c1] at hr1
   obtain ⟨e1,e2⟩:=List.cons.inj hr1;have e2:zje (zdp s m) L=r:=e2;have hmany:many s m=(m.message.data.length:Int)-m.sent:=by unfold many;rw [hc.part];split<;>omega
   have hover:m.sent+many s m=m.message.data.length:=by omega
   have hdat:(m.message.data.drop m.sent.toNat).take (many s m).toNat=m.message.data.drop m.sent.toNat:=zy37 zz0;refine ⟨k,m,h1,h2,?_,?_,?_,?_⟩
   . rw [<- e1];show many s m=((m.message.data.drop m.sent.toNat).length:Int);omega
   . rw [<- e1]
     have hxm:(zcd s m).toNat<60000:=by rw [<- e1] at hx;exact hx
     unfold cut;rw [zy16 hover,hord,hdat];have t1:tag (zcd s m)=(((zcd s m).toNat:Nat):Int):=by unfold tag;omega
     have t2:m.message.stream=((m.message.stream.toNat:Nat):Int):=by omega
     have t3:m.parts=((m.parts.toNat:Nat):Int):=by omega
     rw [t1,<- t2,<- t3]
   . have:(zwt s k m).queue=s.queue.eraseIdx k:=zy1 (zy16 hover)
     show zje (zdp s m) (zpn s.config.turns (zwt s k m).queue)=r;rw [this,h4];exact e2
   . refine ⟨hc.turns,hc.part,fun z hz=>?_,hmc,by
      show zig (zdp s m) (zpn s.config.turns (zwt s k m).queue)=E;rw [show (zwt s k m).queue=s.queue.eraseIdx k from zy1 (zy16 hover),h4];exact hE⟩
     rw [show (zwt s k m).queue=s.queue.eraseIdx k from zy1 (zy16 hover)] at hz;exact hc.ord z (zy73 hz)
 . rw [zy0 c1] at hr1
   obtain ⟨e1,e2⟩:=List.cons.inj hr1;have hmany:many s m=4:=by unfold many;rw [hc.part];split<;>omega
   have hover:¬ m.sent+many s m=m.message.data.length:=by omega
   refine ⟨k,m,h1,h2,?_,?_,?_,?_⟩
   . rw [<- e1,hmany];show (4:Int)=(((m.message.data.drop m.sent.toNat).take 4).length:Int);rw [zy52];omega
   . rw [<- e1]
     have hxm:(zcd s m).toNat<60000:=by rw [<- e1] at hx;exact hx
     unfold cut;rw [zy19 hover,hord,hmany];have t1:tag (zcd s m)=(((zcd s m).toNat:Nat):Int):=by unfold tag;omega
     have t2:m.message.stream=((m.message.stream.toNat:Nat):Int):=by omega
     have t3:m.parts=((m.parts.toNat:Nat):Int):=by omega
     rw [t1,<- t2,<- t3];rfl
   . have:(zwt s k m).queue=s.queue.set k {m with mid:=zcd s m,sent:=m.sent+many s m,parts:=W (m.parts+1)}:=zy0 (by simpa using hover)
     show zje (zdp s m) (zpn s.config.turns (zwt s k m).queue)=r;rw [this,h5 {m with mid:=zcd s m,sent:=m.sent+many s m,parts:=W (m.parts+1)} rfl,zje];have e3:xgk (zdp s m) {m with mid:=zcd s m,sent:=m.sent+many s m,parts:=W (m.parts+1)}=zcd s m:=zy0 (by show ¬ zcd s m<0;omega);have e4:yic (zdp s m) {m with mid:=zcd s m,sent:=m.sent+many s m,parts:=W (m.parts+1)}=zdp s m:=zy0 (by show ¬ zcd s m<0;omega);rw [e3,e4,<- e2];congr 1;show zmz m.message.stream.toNat (zcd s m).toNat m.message.data.length (W (m.parts+1)).toNat (m.message.data.drop (m.sent+many s m).toNat)=zmz m.message.stream.toNat (zcd s m).toNat F (m.parts.toNat+1) ((m.message.data.drop m.sent.toNat).drop 4);rw [zy134,hWp,show (m.parts+1).toNat=m.parts.toNat+1 by omega,hmany,show (m.sent+4).toNat=m.sent.toNat+4 by omega];exact yce _ _ _ _ zz19 zz19 zz19
   . refine ⟨hc.turns,hc.part,fun z hz=>?_,hmc,by
      show zig (zdp s m) (zpn s.config.turns (zwt s k m).queue)=E;rw [show (zwt s k m).queue=s.queue.set k {m with mid:=zcd s m,sent:=m.sent+many s m,parts:=W (m.parts+1)} from zy0 (by simpa using hover),h5 {m with mid:=zcd s m,sent:=m.sent+many s m,parts:=W (m.parts+1)} rfl,zig,show yic (zdp s m) {m with mid:=zcd s m,sent:=m.sent+many s m,parts:=W (m.parts+1)}=zdp s m from zy0 (by show ¬ zcd s m<0;omega)];exact hE⟩
     rw [show (zwt s k m).queue=s.queue.set k _ from zy0 (by simpa using hover)] at hz;rcases zy56 hz with hz | rfl
     . exact hc.ord z hz
     . exact hord
theorem xcf {k mid n p:Nat} {d:List UInt8}:zmz k mid (n+1) p d≠[]:=by
 rw [zmz];split<;>simp
theorem yam (h:SI N s) (hc:QC E s) (hr:rest s=[]):s.queue=[]:=by
 apply Classical.byContradiction;intro hq;obtain ⟨k,m,L,h1,h2,h3,h4,h5⟩:=ygh h hc hq;have q:=h.queue m (zy12 h2);have q1:=q.len1;unfold rest at hr;rw [h3,zje] at hr;obtain ⟨F,hF⟩:∃ F,m.message.data.length=F+1:=⟨m.message.data.length-1,by omega⟩
 rw [hF] at hr;exact xcf (List.append_eq_nil_iff.1 hr).1
theorem xds (hq:s.queue=[]):zdi s<0:=by
 unfold zdi Sch.next;rw [zy1 (by rw [hq];rfl)];decide
end
end Tp
namespace Tp
open Ser Snd
structure xhw (f:Int) (Cs:List CH) (act i:Nat) (x:zbr) (y:Nat×Nat):Prop where
 st:x.state=(y.2:Int)
 st3:y.2=1\/y.2=3\/y.2=4
 ch:y.2≠4->∃ c,Cs[i]?=some c/\x.chunk=c.mk' f i/\y.1=c.data.length
 gone:y.2=4->x.chunk.stream=0/\x.chunk.mid=0/\x.chunk.ordered=true/\y.1=0
 path:y.2=1\/(act=0/\y.2=3)->x.path=(act:Int)
noncomputable def pathOf (clock:Int) (g:GM):Path:=⟨g.win,g.slow,g.par,GM.zak g.out,g.errs,if g.al=0 then 0 else clock+g.al,g.wait⟩
structure xhv (T:Int) (s:zab):Prop where
 queue:∀ m∈s.queue,m.message.tries=0/\0<=m.came/\m.came<=100000/\0<=m.message.life/\(m.message.life=0/\T=100000\/0<m.message.life/\m.came+m.message.life=T+1)
 out:∀ x∈s.out,s.fates[x.id.toNat]?=some 3\/(x.tries=0/\0<=x.came/\x.came<=100000/\0<=x.life/\(x.life=0/\T=100000\/0<x.life/\x.came+x.life=T+1))
structure Lim (g:GM):Prop where
 win:g.win<=200000
 slow:g.slow<=200000
 par:g.par<=400000
 wait:g.wait<=24
 wait1:1<=g.wait
 errs:g.errs<=2000
 al:g.al<=24
structure SR (E:List Int) (f T:Int) (P:Nat) (Cs:List CH) (s:zab) (g:GM):Prop where
 qc:QC E s
 pk:s.config.packet=60
 np:s.paths.length=P
 cum:s.cum=f-1+g.a
 len:s.out.length=g.out.length
 out:∀ (j:Nat) x y,s.out[j]?=some x->g.out[j]?=some y->xhw f Cs g.act (g.a+j) x y
 rest:rest s=Cs.drop (g.a+g.out.length)
 todo:g.todo=(Cs.drop (g.a+g.out.length)).map fun x=>x.data.length
 zed:∀ x∈Cs,x.xbk
 path:s.paths[g.act]?=some (pathOf s.clock g)
 other:∀ (i:Nat) p,i≠g.act->s.paths[i]?=some p->p.zak=0/\p.zcj=0/\(i<g.act->3<p.errors)/\(g.act<i->p=Paths.new 4)
 errs:P=2->g.errs<=3
 fwd:s.forward=g.fwd
 room:280<=s.room
 clk0:0<=s.clock
 clk:s.clock<=100000
 small:T<=100000
 f0:0<=f
 f1:f<65536
 lim:Lim g
 due:xhv T s
section
variable {E:List Int} {N:Nat} {f T:Int} {P:Nat} {Cs:List CH} {s:zab} {g:GM}
theorem SR.act (r:SR E f T P Cs s g):g.act<P:=by have:=Gh.zgd r.path;rw [r.np] at this;exact this
theorem SR.p12 (r:SR E f T P Cs s g) (h:SI N s):P=1\/P=2:=by
 have hw:=zcn h.cfg;have:=h.npaths;have:=r.np;omega
theorem yqo {l:List Path} (h:l.length=1):Paths.zdh 0 l=0:=by
 match l,h with
 | [p],_ =>
  rw [Paths.zdh];split
  . rfl
  . rfl
theorem SR.choose (r:SR E f T P Cs s g) (h:SI N s):Snd.choose s=g.act:=by
 have ha:=r.act;have hp:=r.path;have hn:=r.np;unfold Snd.choose;rcases r.p12 h with h1 | h2
 . rw [yqo (by omega)]
   show (0:Nat)=g.act;omega
 . have he:=r.errs h2
   have hl:s.paths.length=2:=by omega
   match hps:s.paths,hl with
   | [p,q],_ =>
    rcases (show g.act=0\/g.act=1 by omega) with h0 | h0
    . rw [h0,hps] at hp
      have hp:p=pathOf s.clock g:=by simpa using hp
      rw [Paths.zdh,zy1 (by rw [hp];show (g.errs:Int)<=3;omega),h0];rfl
    . rw [h0,hps] at hp
      have hp:q=pathOf s.clock g:=by simpa using hp
      have ho:=(r.other 0 p zz0 (by rw [hps];rfl)).2.2.1 zz0;rw [Paths.zdh,zy0 (by omega),Paths.zdh,zy1 (by rw [hp];show (g.errs:Int)<=3;omega),h0];rfl
theorem xaw {T clock came life:Int} (h0:0<=clock) (h1:clock<=T) (h2:T<=100000) (h:0<=came/\came<=100000/\0<=life/\(life=0/\T=100000\/0<life/\came+life=T+1)):old clock came life=false:=by
 unfold old;rw [zbh (by omega) (by omega)];obtain ⟨a,b,c,d⟩:=h;rcases d with d | d
 . rw [zy19 (by omega)];rfl
 . rw [Bool.and_eq_false_iff];right;exact zy19 zz0
theorem SR.expire (r:SR E f T P Cs s g) (hT:s.clock<=T):expire s=s:=by
 have h1:∀ q:List zaf,(∀ m∈q,m∈s.queue)->q.foldl zkx s=s:=by
  intro q
  induction q with
  | nil=>intro _;rfl
  | cons m q ih =>
   intro hq;rw [zy39];have hm:=r.due.queue m (hq m zz4);rw [show zkx s m=s by unfold zkx;rw [xaw r.clk0 hT r.small ⟨hm.2.1,hm.2.2.1,hm.2.2.2.1,hm.2.2.2.2⟩];rfl];exact ih fun x hx=>hq x zz38
 have h2:∀ q:List zbr,(∀ m∈q,m∈s.out)->q.foldl zid s=s:=by
  intro q
  induction q with
  | nil=>intro _;rfl
  | cons x q ih =>
   intro hq;rw [zy39];have hd:xci s x=false:=by
    unfold xci;rcases r.due.out x (hq x zz4) with h3 | h3
    . rw [h3];rfl
    . rw [xaw r.clk0 hT r.small ⟨h3.2.1,h3.2.2.1,h3.2.2.2.1,h3.2.2.2.2⟩,h3.1]
      simp
   rw [show zid s x=s by unfold zid;rw [hd];rfl];exact ih fun x hx=>hq x zz38
 unfold Snd.expire;rw [h1 s.queue fun _ h=>h];exact h2 s.out fun _ h=>h
theorem zxt (h:SI N s) (r:SR E f T P Cs s g):∀ (l:List zbr) (gl:List (Nat×Nat)) (k:Nat) (sk:List zga),s.out.drop k=l->g.out.drop k=gl->k<=s.out.length->(sk=[]\/sk=[⟨0,0,true⟩]) ->
 Sco.zfo (s.cum+k) sk l=(s.cum+k+GM.lead gl,if GM.lead gl=0 then sk else [⟨0,0,true⟩])
 | [],gl,k,sk,hl,hg,hk,_=>by
  have:gl=[]:=by rw [<- hg];exact zy31 (by have:=r.len;have:=congrArg List.length hl;rw [zy34,zy14] at this;omega)
  subst this;show (s.cum+(k:Int),sk)=(s.cum+(k:Int)+((0:Nat):Int),if (0:Nat)=0 then sk else _);rw [zy1 rfl];simp
 | x::l,gl,k,sk,hl,hg,hk,hsk=>by
  have hlen:=r.len;have hx:s.out[k]?=some x:=by have:=congrArg (fun z=>z[0]?) hl;simpa using this
  have hkl:=Gh.zgd hx;obtain ⟨y,hy⟩:∃ y,g.out[k]?=some y:=⟨_,zy3 zz0⟩
  have hg2:gl=y::g.out.drop (k+1):=by
   rw [<- hg,zy26 (by omega)];rw [zy3 (by omega)] at hy;cases hy;rfl
  have hl2:s.out.drop (k+1)=l:=by
   rw [zy26 hkl] at hl;exact (List.cons.inj hl).2
  have ho:=r.out k x y hx hy;have hn:=h.nums k x hx;have hc:=h.cum;have hcap:=h.few;have hnx:=h.nextle;have hnx2:=h.next;have hw:=zcn h.cfg;have hW:W (s.cum+k+1)=s.cum+k+1:=zbh zz0 zz0;rw [Sco.zfo,hg2,hW];by_cases c4:y.2=4
  . have e4:x.state=4:=by rw [ho.st,c4];rfl
    obtain ⟨g1,g2,g3,g4⟩:=ho.gone c4;have zwe:Sco.skip x.chunk sk=[⟨0,0,true⟩]:=by
     rcases hsk with rfl | rfl
     . rw [Sco.skip,g1,g2,g3]
     . rw [Sco.skip,zy1 (by unfold Sco.zkl;rw [g1,g3];rfl),g2]
    rw [zy0 (by rintro (h1 | h1);omega;exact h1.1 e4),zy1 e4,zwe,zy0 (by simp),GM.yxx c4];have ih:=zxt h r l (g.out.drop (k+1)) (k+1) [⟨0,0,true⟩] hl2 rfl hkl (.inr rfl);rw [show x.number=s.cum+((k+1:Nat):Int) by omega,ih,zy0 (show ¬ GM.lead (g.out.drop (k+1))+1=0 by omega)];congr 1
    . omega
    . split<;>rfl
  . have e4:x.state≠4:=by rw [ho.st];omega
    have e2:x.state≠2:=by rw [ho.st];have:=ho.st3;omega
    rw [zy1 (.inr ⟨e4,e2⟩),GM.xdm c4,zy1 rfl];simp
theorem SR.zdy (h:SI N s) (r:SR E f T P Cs s g):Sco.zdy s.out s.cum=(s.cum+GM.lead g.out,if GM.lead g.out=0 then [] else [⟨0,0,true⟩]):=by
 have:=zxt h r s.out g.out 0 [] rfl rfl (zy104 _) (.inl rfl);rw [show s.cum+((0:Nat):Int)=s.cum by omega] at this;exact this
def xay (P act:Nat) (l:List Chunk):List (List Chunk):=(List.replicate P []).set act l
theorem yaf {P act:Nat} {l:List Chunk} {c:Chunk} (h:act<P):setAt (xay P act l) act (·++[c])=xay P act (l++[c]):=by
 unfold setAt xay;rw [zy27 (by simpa using h)];simp
structure PR (E:List Int) (f T:Int) (P:Nat) (Cs:List CH) (p:zgj) (g:GM) (em:List (Nat×Nat)):Prop where
 sr:SR E f T P Cs p.s g
 po:p.out=xay P g.act (chs f Cs em)
 em:∀ y∈em,zmy Cs y/\(y.1 % 2=0->y.1 / 2<g.a+g.out.length)
theorem zjt {α:Type} {l:List α} {k:Nat} {x:α} {F:α->α} (h:l[k]?=some x):setAt l k F=l.set k (F x):=by
 unfold setAt;rw [h]
theorem SR.wait (r:SR E f T P Cs s g):W (s.clock+g.wait)=s.clock+g.wait:=by
 have:=r.lim.wait;have:=r.clk0;have:=r.clk;have:=r.small;exact zbh zz0 zz0
theorem yhg {p:zgj} (h:SI N p.s) (r:PR E f T P Cs p g []):PR E f T P Cs (forward p) (GM.zib g).1 (GM.zib g).2:=by
 have hpt:=r.sr.zdy h;have hch:=r.sr.choose h;unfold forward;rw [hpt,hch];unfold GM.zib;by_cases c1:g.fwd=false
 . rw [zy1 (.inl (by rw [r.sr.fwd];exact c1)),c1]
   exact r
 have c1:g.fwd=true:=by cases hb:g.fwd with | true=>rfl | false=>exact absurd hb c1
 by_cases c2:GM.lead g.out=0
 . rw [zy1 (.inr (by rw [c2];simp)),GM.zfk c2,c1]
   exact r
 . rw [zy0 (by rintro (h1 | h1);rw [r.sr.fwd,c1] at h1;cases h1;dsimp only at h1;omega),GM.zhe c2,c1,zy0 c2]
   have hsr:=r.sr;have hp:=hsr.path;show PR E f T P Cs ⟨{p.s with forward:=false,paths:=setAt p.s.paths g.act (zcj p.s)},setAt p.out g.act (·++[⟨3,tag (p.s.cum+GM.lead g.out),0,0,0,false,false,[],[],0,[⟨0,0,true⟩]⟩])⟩ {g with fwd:=false,al:=bif Nat.beq g.al 0 then g.wait else g.al} [(2*(g.a+GM.lead g.out)+1,8)];have hal:zcj p.s (pathOf p.s.clock g)=pathOf p.s.clock {g with fwd:=false,al:=bif Nat.beq g.al 0 then g.wait else g.al}:=by
    unfold zcj pathOf;have hw:=hsr.lim.wait1;by_cases c3:g.al=0
    . dsimp only
      rw [zy1 c3,zy1 rfl,GM.zfk c3];show (⟨g.win,g.slow,g.par,GM.zak g.out,g.errs,W (p.s.clock+g.wait),g.wait⟩:Path)=⟨_,_,_,_,_,if g.wait=0 then 0 else p.s.clock+g.wait,_⟩;rw [hsr.wait,zy0 (by omega)]
    . dsimp only
      rw [zy0 c3,GM.zhe c3];have:=hsr.clk0;rw [zy0 (by omega)];show _=(⟨g.win,g.slow,g.par,GM.zak g.out,g.errs,if g.al=0 then 0 else p.s.clock+g.al,g.wait⟩:Path);rw [zy0 c3]
   refine ⟨⟨⟨hsr.qc.turns,hsr.qc.part,hsr.qc.ord,hsr.qc.mids,hsr.qc.ends⟩,hsr.pk,by show (setAt _ _ _).length=P;rw [zgi];exact hsr.np,hsr.cum,hsr.len,hsr.out,hsr.rest,hsr.todo,hsr.zed,?_,fun i q hi hq=>?_,hsr.errs,rfl,hsr.room,hsr.clk0,hsr.clk,hsr.small,hsr.f0,hsr.f1,⟨hsr.lim.win,hsr.lim.slow,hsr.lim.par,hsr.lim.wait,hsr.lim.wait1,hsr.lim.errs,?_⟩,⟨hsr.due.queue,hsr.due.out⟩⟩,?_,fun y hy=>?_⟩
   . show (setAt p.s.paths g.act (zcj p.s))[g.act]?=_
     rw [zjt hp,zy27 (Gh.zgd hp),hal]
   . have hq:(setAt p.s.paths g.act (zcj p.s))[i]?=some q:=hq
     rw [zjt hp,zy45 (fun e=>hi e.symm)] at hq;exact hsr.other i q hi hq
   . show (bif Nat.beq g.al 0 then g.wait else g.al)<=24
     have:=hsr.lim.wait;have:=hsr.lim.al;cases Nat.beq g.al 0<;>(dsimp only [cond];omega)
   . show setAt p.out g.act _=_
     rw [r.po,yaf hsr.act];congr 1;show []++[_]=chs f Cs [(2*(g.a+GM.lead g.out)+1,8)];unfold chs;rw [zy24,zy80,ywi];unfold zub;rw [hsr.cum,show f-1+(g.a:Int)+GM.lead g.out=f-1+((g.a+GM.lead g.out:Nat):Int) by omega];rfl
   . rw [zy23] at hy
     subst hy;exact ⟨.inl ⟨by omega,rfl⟩,fun h=>by dsimp only at h;omega⟩
end
end Tp
namespace Tp
open Ser Snd
section
variable {E:List Int} {N:Nat} {f T:Int} {P:Nat} {Cs:List CH} {s:zab} {g:GM}
theorem zpu:∀ {l:List (Nat×Nat)} {i n st:Nat},l[i]?=some (n,st)->st≠1->GM.zak (l.set i (n,1))=GM.zak l+n
 | [],i,n,st,h,_=>by cases h
 | x::l,0,n,st,h,hs=>by
  have:x=(n,st):=by simpa using h
  subst this;rw [zy127,GM.zdw,GM.zdw,zy1 rfl,zy0 hs];omega
 | x::l,i+1,n,st,h,hs=>by
  rw [zy114,GM.zdw,GM.zdw,zpu (by simpa using h) hs];omega
theorem yco:∀ {l:List (Nat×Nat)},(∀ y∈l,y.2=1->y.1<=4)->GM.zak l<=4*l.length
 | [],_=>zy22 _
 | x::l,h=>by
  have:=yco (l:=l) fun y hy=>h y zz47
  have hx:=h x zz4;rw [GM.zdw,zy5];split
  . rename_i c;have:=hx c;omega
  . omega
theorem SR.fl (h:SI N s) (r:SR E f T P Cs s g):GM.zak g.out<=4*g.out.length/\g.out.length<=61*2 ^ 20:=by
 refine ⟨yco fun y hy h1=>?_,?_⟩
 . obtain ⟨j,hj⟩:=zy61 hy
   obtain ⟨x,hx⟩:∃ x,s.out[j]?=some x:=⟨_,zy3 (by have:=Gh.zgd hj;have:=r.len;omega)⟩
   obtain ⟨c,c1,c2,c3⟩:=(r.out j x y hx hj).ch zz0;have:=(r.zed c (zy12 c1)).d4;omega
 . have:=h.len
   have:=h.few;have:=r.len;omega
theorem xcw {p:zgj} {em:List (Nat×Nat)} (h:SI N p.s) (r:PR E f T P Cs p g em) {i n:Nat} (hi:g.out[i]?=some (n,3)):PR E f T P Cs (fly p i g.act) {g with out:=g.out.set i (n,1)} (em++[(2*(g.a+i),9+n)]):=by
 have hsr:=r.sr;have hlen:=hsr.len;have hil:=Gh.zgd hi;obtain ⟨x,hx⟩:∃ x,p.s.out[i]?=some x:=⟨_,zy3 zz0⟩
 have ho:=hsr.out i x _ hx hi;obtain ⟨c,c1,c2,c3⟩:=ho.ch (show (3:Nat)≠4 by decide);have c3:n=c.data.length:=c3;have hp:=hsr.path;obtain ⟨hfl,hol⟩:=hsr.fl h;have hset:=zpu hi zz5;have hcf:=(hsr.zed c (zy12 c1)).d4;have hdl:x.chunk.data.length=n:=by rw [c2,c3];rfl
 unfold fly;rw [hx];dsimp only;have hpath:({pathOf p.s.clock g with zak:=W ((pathOf p.s.clock g).zak+x.chunk.data.length)}:Path)=pathOf p.s.clock {g with out:=g.out.set i (n,1)}:=by
  unfold pathOf;dsimp only;rw [hdl,hset,zbh (by omega) (by omega)];rfl
 refine ⟨⟨⟨hsr.qc.turns,hsr.qc.part,hsr.qc.ord,hsr.qc.mids,hsr.qc.ends⟩,hsr.pk,by show (setAt _ _ _).length=P;rw [zgi];exact hsr.np,hsr.cum,by show (List.set _ _ _).length=(List.set _ _ _).length;rw [zy30,zy30];exact hlen,fun j x' y' hx' hy'=>?_,by show rest p.s=_;rw [hsr.rest];congr 2;exact (zy30 ..).symm,by show g.todo=_;rw [hsr.todo];congr 3;exact (zy30 ..).symm,hsr.zed,?_,fun j q hj hq=>?_,hsr.errs,hsr.fwd,hsr.room,hsr.clk0,hsr.clk,hsr.small,hsr.f0,hsr.f1,⟨hsr.lim.win,hsr.lim.slow,hsr.lim.par,hsr.lim.wait,hsr.lim.wait1,hsr.lim.errs,hsr.lim.al⟩,⟨hsr.due.queue,fun z hz=>?_⟩⟩,?_,fun y hy=>?_⟩
 . have hx':(p.s.out.set i (zvx x g.act))[j]?=some x':=hx'
   have hy':(g.out.set i (n,1))[j]?=some y':=hy';by_cases e:i=j
   . subst e
     rw [zy27 (by omega)] at hx' hy';cases hx';cases hy';exact ⟨rfl,.inl rfl,fun _=>⟨c,c1,c2,c3⟩,fun h4=>(by cases h4),fun _=>rfl⟩
   . rw [zy45 e] at hx' hy'
     exact hsr.out j x' y' hx' hy'
 . show (setAt p.s.paths g.act _)[g.act]?=_
   rw [zjt hp,zy27 (Gh.zgd hp),hpath]
 . have hq:(setAt p.s.paths g.act _)[j]?=some q:=hq
   rw [zjt hp,zy45 (fun e=>hj e.symm)] at hq;exact hsr.other j q hj hq
 . have hz:z∈p.s.out.set i (zvx x g.act):=hz
   rcases zy56 hz with hz | rfl
   . exact hsr.due.out z hz
   . exact hsr.due.out x (zy12 hx)
 . show setAt p.out g.act (·++[x.chunk])=_
   rw [r.po,yaf hsr.act];congr 1;unfold chs;rw [zy36,zy24,zy80,yby c1,c2]
 . show zmy Cs y/\(y.1 % 2=0->y.1 / 2<g.a+(g.out.set i (n,1)).length)
   rw [zy30];rcases zy17.1 hy with hy | hy
   . exact r.em y hy
   . rw [zy23] at hy
     subst hy;refine ⟨.inr ⟨by omega,c,?_,hsr.zed c (zy12 c1),by rw [c3]⟩,fun _=>by dsimp only;omega⟩;rw [show 2*(g.a+i) / 2=g.a+i by omega];exact c1
theorem zqj (r:SR E f T P Cs s g):opened s g.act=decide (GM.zak g.out<g.win):=by
 unfold opened;rw [r.path];show decide (((GM.zak g.out:Nat):Int)<((g.win:Nat):Int))=_;rw [zy160];omega
theorem zta:∀ (l:List (Nat×Nat)) (k:Nat) {p:zgj} {g:GM} {em:List (Nat×Nat)},SI N p.s->PR E f T P Cs p g em->g.out.drop k=l->k<=g.out.length ->
 PR E f T P Cs ((List.range' k l.length).foldl (zdn g.act) p) {g with out:=g.out.take k++(GM.again g.win (g.a+k) (GM.zak g.out) l).1} (em++(GM.again g.win (g.a+k) (GM.zak g.out) l).2.2)
 | [],k,p,g,em,h,r,hl,hk=>by
  have:k=g.out.length:=by have:=congrArg List.length hl;rw [zy34,zy14] at this;omega
  show PR E f T P Cs p {g with out:=g.out.take k++[]} (em++[]);rw [zy8,zy8,this,List.take_length];exact r
 | y::l,k,p,g,em,h,r,hl,hk=>by
  have hy:g.out[k]?=some y:=by have:=congrArg (fun z=>z[0]?) hl;simpa using this
  have hkl:=Gh.zgd hy;have hl2:g.out.drop (k+1)=l:=by
   rw [zy26 hkl] at hl;exact (List.cons.inj hl).2
  obtain ⟨x,hx⟩:∃ x,p.s.out[k]?=some x:=⟨_,zy3 (by have:=r.sr.len;omega)⟩
  have hst:=(r.sr.out k x y hx hy).st;have hop:=zqj r.sr;rw [zy5,List.range'_succ,zy39,GM.zwj];by_cases c1:y.2=3/\GM.zak g.out<g.win
  . have e1:zdn g.act p k=fly p k g.act:=by
     unfold zdn;rw [hx];exact zy1 ⟨by rw [hst,c1.1];rfl,by rw [hop];exact zy16 c1.2⟩
    have hy3:g.out[k]?=some (y.1,3):=by rw [hy,<- c1.1]
    have r2:=xcw h r hy3;have h2:SI N (fly p k g.act).s:=yrf h hx (by rw [hst,c1.1];decide) (by rw [r.sr.np];exact r.sr.act);have hset:=zpu hy3 zz5;have ih:=zta l (k+1) h2 r2 (by show (g.out.set k (y.1,1)).drop (k+1)=l;rw [List.drop_set_of_lt (by omega)];exact hl2) (by show k+1<=(g.out.set k (y.1,1)).length;rw [zy30];omega);rw [e1,zy1 c1];dsimp only at ih ⊢;rw [hset] at ih;have ht:(g.out.set k (y.1,1)).take (k+1)=g.out.take k++[(y.1,1)]:=by
     rw [List.take_add_one,List.take_set_of_le (zy22 k),zy27 hkl];rfl
    exact yy96
  . have e1:zdn g.act p k=p:=by
     unfold zdn;rw [hx];refine zy0 fun hc=>c1 ?_
     rw [hst,hop] at hc;exact ⟨by omega,zy43 hc.2⟩
    have ih:=zta l (k+1) h r hl2 hkl;rw [e1,zy0 c1];dsimp only at ih ⊢;have ht:g.out.take (k+1)=g.out.take k++[y]:=by rw [List.take_add_one,hy];rfl
    exact yy96
theorem ynj {p:zgj} {em:List (Nat×Nat)} (h:SI N p.s) (r:PR E f T P Cs p g em):PR E f T P Cs (again p) (GM.zho g).1 (em++(GM.zho g).2):=by
 have:=zta g.out 0 h r rfl (zy104 _);unfold again;rw [r.sr.choose h,List.range_eq_range',r.sr.len];exact this
end
end Tp
namespace Tp
open Ser Snd
section
variable {E:List Int} {N:Nat} {f T:Int} {P:Nat} {Cs:List CH} {s:zab} {g:GM}
theorem fold_zero:∀ {l:List Path} {n:Int},(∀ q∈l,q.zak=0)->-(2 ^ 40)<=n->n<=2 ^ 40->l.foldl (fun n a=>W (n+a.zak)) n=n
 | [],_,_,_,_=>rfl
 | q::l,n,h,h1,h2=>by
  rw [zy39,h q (by simp),Int.add_zero,zbh (by omega) (by omega)];exact fold_zero (fun x hx=>h x zz38) h1 h2
theorem ykp:∀ {l:List Path} {k:Nat} {p:Path} {n:Int},l[k]?=some p->(∀ (i:Nat) q,i≠k->l[i]?=some q->q.zak=0)->-(2 ^ 30)<=n->n<=2 ^ 30->0<=p.zak->p.zak<=2 ^ 30->l.foldl (fun n a=>W (n+a.zak)) n=n+p.zak
 | q::l,0,p,n,h,ho,h1,h2,h3,h4=>by
  have:q=p:=by simpa using h
  subst this;rw [zy39,zbh (by omega) (by omega)];refine fold_zero (fun x hx=>?_) zz0 zz0;obtain ⟨i,hi⟩:=zy61 hx;exact ho (i+1) x zz0 (by simpa using hi)
 | q::l,k+1,p,n,h,ho,h1,h2,h3,h4=>by
  rw [zy39,ho 0 q (by omega) rfl,Int.add_zero,zbh (by omega) (by omega)];exact ykp zz84 (fun i x hi hx=>ho (i+1) x zz0 zz46) h1 h2 h3 h4
theorem SR.zak (h:SI N s) (r:SR E f T P Cs s g):Snd.zak s=(GM.zak g.out:Int):=by
 obtain ⟨h1,h2⟩:=r.fl h;have:=ykp (n:=0) r.path (fun i q hi hq=>(r.other i q hi hq).1) zz5 zz5 (by show (0:Int)<=(GM.zak g.out:Nat);omega) (by show ((GM.zak g.out:Nat):Int)<=2 ^ 30;omega);unfold Snd.zak;rw [this];show (0:Int)+((GM.zak g.out:Nat):Int)=_;omega
theorem ztz (win:Nat):∀ (l:List Nat) (len k f:Nat),GM.fresh win len (k+1) f l=GM.fresh win (len+1) k f l
 | [],_,_,_=>rfl
 | n::l,len,k,f=>by
  rw [GM.zpw,GM.zpw,ztz win l len (k+1) (f+n),show len+(k+1)=len+1+k by omega]
theorem yyd {p:zgj} {em:List (Nat×Nat)} (h:SI N p.s) (r:PR E f T P Cs p g em) {n:Nat} {t:List Nat} (ht:g.todo=n::t) (c1:GM.zak g.out<g.win/\g.out.length<60) (_:GM.zak g.out=0\/GM.zak g.out+n<=280) :
 ∃ q,next p=some q/\PR E f T P Cs q {g with todo:=t,out:=g.out++[(n,1)]} (em++[(2*(g.a+g.out.length),9+n)]):=by
 have hsr:=r.sr;obtain ⟨hfl,hol⟩:=hsr.fl h;have hlen:=hsr.len;have htd:=hsr.todo;rw [ht] at htd;cases hC:Cs.drop (g.a+g.out.length) with
 | nil=>rw [hC] at htd;cases htd
 | cons x rs =>
 rw [hC] at htd;obtain ⟨hn,htt⟩:=List.cons.inj htd;have hrest:=hsr.rest;rw [hC] at hrest;have hxm:x∈Cs:=zy81 (by rw [hC];simp);have hxf:=hsr.zed x hxm;have hCx:Cs[g.a+g.out.length]?=some x:=by
  have:=congrArg (fun z=>z[0]?) hC
  simpa using this
 have hCd:Cs.drop (g.a+g.out.length+1)=rs:=by
  rw [zy26 (Gh.zgd hCx)] at hC;exact (List.cons.inj hC).2
 obtain ⟨k,m,e1,e2,e3,e4,e5,e6⟩:=yta h hsr.qc hrest hxf.mid;have hd4:=hxf.d4;have hd1:=hxf.d1;have hch:=hsr.choose h;have hop:=zqj hsr;have hflight:=hsr.zak h;have hmm:=zy12 e2;have hq:=hsr.due.queue m hmm;have hp:=hsr.path;have hnx:=h.next;have hcm:=hsr.cum;obtain ⟨ps,po⟩:=p;dsimp only at *
 have zcz:next ⟨ps,po⟩=some (yih ⟨ps,po⟩ k m (many ps m)):=by
  unfold next;dsimp only;rw [hch,hop,zy16 c1.1,zy0 (by rintro (h1 | h1 | h1);omega;cases h1;omega),e1,show ((k:Nat):Int).toNat=k by omega,e2];dsimp only;rw [hflight,e3,zbh (by omega) (by omega),zy0 (by have:=hsr.room;omega)]
 refine ⟨_,zcz,?_⟩;rw [zlq,hch];have hcd:(cut ps m (many ps m)).data.length=n:=by rw [e4];exact hn.symm
 have hout:fly ⟨zwt ps k m,po⟩ ps.out.length g.act=⟨{zwt ps k m with out:=ps.out++[zvx ⟨ps.next,m.id,0,0,0,0,m.came,m.message.life,m.message.tries,cut ps m (many ps m)⟩ g.act],paths:=setAt ps.paths g.act fun a=>{a with zak:=W (a.zak+n)}},setAt po g.act (·++[cut ps m (many ps m)])⟩:=by
  unfold fly;have:(zwt ps k m).out[ps.out.length]?=some ⟨ps.next,m.id,0,0,0,0,m.came,m.message.life,m.message.tries,cut ps m (many ps m)⟩:=by
   show (ps.out++[_])[ps.out.length]?=_;simp
  rw [this];dsimp only;rw [hcd];congr 2;show (ps.out++[_]).set ps.out.length _=_;rw [zy162 _ _ (zy22 _),zy98];rfl
 rw [hout];have hfa:GM.zak (g.out++[(n,1)])=GM.zak g.out+n:=by
  rw [GM.zwx,GM.zdw,zy1 rfl];rfl
 have hpath:({pathOf ps.clock g with zak:=W ((pathOf ps.clock g).zak+n)}:Path)=pathOf ps.clock {g with todo:=t,out:=g.out++[(n,1)]}:=by
  unfold pathOf;dsimp only;rw [hfa,zbh (by omega) (by omega)];rfl
 have hqueue:∀ z∈(zwt ps k m).queue,∃ y∈ps.queue,z.message=y.message/\z.came=y.came:=by
  intro z hz;have hz:z∈(if decide (m.sent+many ps m=m.message.data.length) then ps.queue.eraseIdx k else ps.queue.set k {m with mid:=zcd ps m,sent:=m.sent+many ps m,parts:=W (m.parts+1)}):=hz;split at hz
  . exact ⟨z,zy73 hz,rfl,rfl⟩
  . rcases zy56 hz with hz | rfl
    . exact ⟨z,hz,rfl,rfl⟩
    . exact ⟨m,hmm,rfl,rfl⟩
 refine ⟨⟨⟨e6.turns,e6.part,e6.ord,e6.mids,e6.ends⟩,hsr.pk,by show (setAt _ _ _).length=P;rw [zgi];exact hsr.np,hsr.cum,by show (ps.out++[_]).length=(g.out++[_]).length;rw [zy6,zy6,hlen];rfl,fun j x' y' hx' hy'=>?_,?_,?_,hsr.zed,?_,fun j q hj hq2=>?_,hsr.errs,hsr.fwd,hsr.room,hsr.clk0,hsr.clk,hsr.small,hsr.f0,hsr.f1,⟨hsr.lim.win,hsr.lim.slow,hsr.lim.par,hsr.lim.wait,hsr.lim.wait1,hsr.lim.errs,hsr.lim.al⟩,⟨fun z hz=>?_,fun z hz=>?_⟩⟩,?_,fun y hy=>?_⟩
 . have hx':(ps.out++[_])[j]?=some x':=hx'
   have hy':(g.out++[(n,1)])[j]?=some y':=hy';rcases Gh.ztg hx' with hx' | ⟨hj1,rfl⟩
   . have:=Gh.zgd hx'
     rw [zy35 (by omega)] at hy';exact hsr.out j x' y' hx' hy'
   . rcases Gh.ztg hy' with hy' | ⟨hj2,rfl⟩
     . have:=Gh.zgd hy';omega
     . refine ⟨rfl,.inl rfl,fun _=>⟨x,by rw [hj2];exact hCx,?_,hn⟩,fun h4=>(by cases h4),fun _=>rfl⟩
       show cut ps m (many ps m)=x.mk' f (g.a+j);rw [e4];unfold CH.mk';rw [show ps.next=f+((g.a+j:Nat):Int) by omega]
 . show rest (zwt ps k m)=_
   rw [e5,<- hCd];congr 1;show _=g.a+(g.out++[(n,1)]).length;rw [zy6];rfl
 . show t=_
   rw [htt,<- hCd];congr 2;show _=g.a+(g.out++[(n,1)]).length;rw [zy6];rfl
 . show (setAt ps.paths g.act _)[g.act]?=_
   rw [zjt hp,zy27 (Gh.zgd hp),hpath];rfl
 . have hq2:(setAt ps.paths g.act _)[j]?=some q:=hq2
   rw [zjt hp,zy45 (fun e=>hj e.symm)] at hq2;exact hsr.other j q hj hq2
 . obtain ⟨y,y1,y2,y3⟩:=hqueue z hz
   rw [y2,y3];exact hsr.due.queue y y1
 . have hz:z∈ps.out++[_]:=hz
   rcases zy17.1 hz with hz | hz
   . exact hsr.due.out z hz
   . rw [zy23] at hz
     subst hz;exact .inr hq
 . show setAt po g.act (·++[cut ps m (many ps m)])=_
   have hpo:po=xay P g.act (chs f Cs em):=r.po;rw [hpo,yaf hsr.act];congr 1;unfold chs;rw [zy36,zy24,zy80,yby hCx,e4];unfold CH.mk';rw [show ps.next=f+((g.a+g.out.length:Nat):Int) by omega]
 . show zmy Cs y/\(y.1 % 2=0->y.1 / 2<g.a+(g.out++[(n,1)]).length)
   rw [zy6];rcases zy17.1 hy with hy | hy
   . have:=r.em y hy
     exact ⟨this.1,fun h=>by have:=this.2 h;show _<g.a+(g.out.length+1);omega⟩
   . rw [zy23] at hy
     subst hy;refine ⟨.inr ⟨by omega,x,?_,hxf,by rw [hn]⟩,fun _=>by dsimp only [List.length_singleton];omega⟩;rw [show 2*(g.a+g.out.length) / 2=g.a+g.out.length by omega];exact hCx
theorem yed {p:zgj} {em:List (Nat×Nat)} (h:SI N p.s) (r:PR E f T P Cs p g em) (hc:g.todo=[]\/¬ (GM.zak g.out<g.win/\g.out.length<60)):next p=none:=by
 have hsr:=r.sr;have hch:=hsr.choose h;have hop:=zqj hsr;have hlen:=hsr.len;unfold next;rw [hch,hop];rcases hc with hc | hc
 . have htd:=hsr.todo
   rw [hc] at htd;have hr:=hsr.rest;rw [zy123.1 htd.symm] at hr;rw [zy1 (.inl (xds (yam h hsr.qc hr)))]
 . by_cases c1:GM.zak g.out<g.win
   . rw [zy1 (.inr (.inr (by omega)))]
   . rw [zy1 (.inr (.inl (zy19 c1)))]
theorem yef:∀ (fuel:Nat) {p:zgj} {g:GM} {em:List (Nat×Nat)},SI N p.s->PR E f T P Cs p g em->61<=fuel+g.out.length->(GM.yjr g).2.2=true ->
 SI N (zgl fuel p).s/\PR E f T P Cs (zgl fuel p) (GM.yqe g).1 (em++(GM.yqe g).2)
 | fuel,p,g,em,h,r,hf,hok=>by
  cases ht:g.todo with
  | nil =>
   have hn:=yed h r (.inl ht);have e0:zgl fuel p=p:=by cases fuel with | zero=>rfl | succ k=>rw [zgl,hn]
   have e1:GM.yjr g=(0,GM.zak g.out,true):=by unfold GM.yjr;rw [ht];rfl
   rw [e0];unfold GM.yqe;rw [e1,ht];refine ⟨h,?_⟩;show PR E f T P Cs p {g with todo:=[],out:=g.out++[],ok:=g.ok&&true} (em++[]);rw [zy8,zy8];obtain ⟨r1,r2,r3⟩:=r;refine ⟨⟨r1.qc,r1.pk,r1.np,r1.cum,r1.len,r1.out,r1.rest,?_,r1.zed,r1.path,r1.other,r1.errs,r1.fwd,r1.room,r1.clk0,r1.clk,r1.small,r1.f0,r1.f1,⟨r1.lim.win,r1.lim.slow,r1.lim.par,r1.lim.wait,r1.lim.wait1,r1.lim.errs,r1.lim.al⟩,r1.due⟩,r2,r3⟩;rw [<- r1.todo,ht]
  | cons n t =>
   have hcnt:GM.yjr g=GM.fresh g.win g.out.length 0 (GM.zak g.out) (n::t):=by unfold GM.yjr;rw [ht]
   rw [GM.zpw,zy96] at hcnt;by_cases c1:GM.zak g.out<g.win/\g.out.length<60
   . rw [zy1 c1] at hcnt
     by_cases c2:GM.zak g.out=0\/GM.zak g.out+n<=280
     . rw [zy1 c2] at hcnt
       obtain ⟨q,q1,q2⟩:=yyd h r ht c1 c2;obtain ⟨fu,rfl⟩:∃ k,fuel=k+1:=⟨fuel-1,by omega⟩
       have hfa:GM.zak (g.out++[(n,1)])=GM.zak g.out+n:=by
        rw [GM.zwx,GM.zdw,zy1 rfl];rfl
       have hcnt2:GM.yjr {g with todo:=t,out:=g.out++[(n,1)]}=GM.fresh g.win g.out.length 1 (GM.zak g.out+n) t:=by
        unfold GM.yjr;dsimp only;rw [hfa,zy6,ztz];rfl
       have ih:=yef fu (yij h q1) q2 (by dsimp only;rw [zy6,zy57];omega) (by rw [hcnt2];rw [hcnt] at hok;exact hok);rw [zgl,q1];dsimp only;refine ⟨ih.1,?_⟩;have ih:=ih.2;unfold GM.yqe at ih ⊢;rw [hcnt2] at ih;rw [hcnt,ht];dsimp only at ih ⊢;rw [zy110,zy141,zy24];rw [zy33,zy33,zy6,zy57] at ih;exact ih
     . rw [zy0 c2] at hcnt
       rw [hcnt] at hok;cases hok
   . have hn:=yed h r (.inr c1)
     have e0:zgl fuel p=p:=by cases fuel with | zero=>rfl | succ k=>rw [zgl,hn]
     rw [zy0 c1] at hcnt;rw [e0];unfold GM.yqe;rw [hcnt];refine ⟨h,?_⟩;show PR E f T P Cs p {g with todo:=g.todo,out:=g.out++[],ok:=g.ok&&true} (em++[]);rw [zy8,zy8];obtain ⟨r1,r2,r3⟩:=r;exact ⟨⟨r1.qc,r1.pk,r1.np,r1.cum,r1.len,r1.out,r1.rest,r1.todo,r1.zed,r1.path,r1.other,r1.errs,r1.fwd,r1.room,r1.clk0,r1.clk,r1.small,r1.f0,r1.f1,⟨r1.lim.win,r1.lim.slow,r1.lim.par,r1.lim.wait,r1.lim.wait1,r1.lim.errs,r1.lim.al⟩,r1.due⟩,r2,r3⟩
theorem yzv (h:SI N s) (r:SR E f T P Cs s g):SR E f T P Cs (ygk s) (GM.ygj g):=by
 have hpt:=r.zdy h;have hp:=r.path;have hal:zfz s (Sco.zdy s.out s.cum).1 (pathOf s.clock g)=pathOf s.clock (GM.ygj g):=by
  rw [hpt];unfold zfz pathOf GM.ygj;dsimp only;have hw:=r.lim.wait1;have hc:=r.clk0;by_cases c1:GM.zak g.out=0
  . rw [c1,zy0 (by rintro ⟨h1,-⟩;omega),GM.zfk rfl]
    by_cases c2:GM.lead g.out=0
    . rw [zy1 ⟨rfl,by rw [c2];omega⟩,GM.zfk c2]
      show _=(⟨_,_,_,_,_,if (0:Nat)=0 then 0 else _,_⟩:Path);rw [zy1 rfl]
    . rw [zy0 (by rintro ⟨-,h2⟩;omega),GM.zhe c2];rfl
  . rw [GM.zhe c1]
    by_cases c2:g.al=0
    . rw [zy1 ⟨by omega,by rw [zy1 c2]⟩,GM.zfk c2]
      show (⟨_,_,_,_,_,W (s.clock+g.wait),_⟩:Path)=⟨_,_,_,_,_,if g.wait=0 then 0 else s.clock+g.wait,_⟩;rw [r.wait,zy0 (by omega)]
    . rw [zy0 (by rintro ⟨-,h2⟩;rw [zy0 c2] at h2;omega),zy0 (by rintro ⟨h1,-⟩;omega),GM.zhe c2];rfl
 refine ⟨⟨r.qc.turns,r.qc.part,r.qc.ord,r.qc.mids,r.qc.ends⟩,r.pk,by show (List.map _ _).length=P;rw [zy2];exact r.np,r.cum,r.len,r.out,r.rest,r.todo,r.zed,?_,fun i q hi hq=>?_,r.errs,r.fwd,r.room,r.clk0,r.clk,r.small,r.f0,r.f1,⟨r.lim.win,r.lim.slow,r.lim.par,r.lim.wait,r.lim.wait1,r.lim.errs,?_⟩,⟨r.due.queue,r.due.out⟩⟩
 . show (s.paths.map _)[g.act]?=_
   rw [zy10,hp];show some (zfz s _ (pathOf s.clock g))=_;rw [hal];rfl
 . have hq:(s.paths.map (zfz s (Sco.zdy s.out s.cum).1))[i]?=some q:=hq
   rw [zy10] at hq;cases hz:s.paths[i]? with
   | none=>rw [hz] at hq;cases hq
   | some z =>
    rw [hz] at hq;have hq:zfz s (Sco.zdy s.out s.cum).1 z=q:=by simpa using hq
    obtain ⟨z1,z2,z3,z4⟩:=r.other i z hi hz;have:zfz s (Sco.zdy s.out s.cum).1 z=z:=by
     unfold zfz;rw [zy0 (by rintro ⟨h1,-⟩;omega)];split
     . obtain ⟨a,b,c,d,e,g',i'⟩:=z
       dsimp only at z2;subst z2;rfl
     . rfl
    rw [<- hq,this];exact ⟨z1,z2,z3,z4⟩
 . unfold GM.ygj
   have:=r.lim.wait;have:=r.lim.al;dsimp only;cases Nat.beq (GM.zak g.out) 0<;>cases Nat.beq (GM.lead g.out) 0<;>cases Nat.beq g.al 0<;>(dsimp only [cond];omega)
theorem zrp (most:Int) (k:Nat):∀ n:Nat,zbx most k (List.replicate n [])=[]
 | 0=>rfl
 | n+1=>by
  rw [zy89,zbx,zrp most (k+1) n];rfl
theorem zrq {l:List Chunk}:∀ (P act k:Nat),act<P->zbx 60 k ((List.replicate P []).set act l)=zgm 60 ((k+act:Nat):Int) l.length l
 | 0,act,k,h=>by omega
 | P+1,0,k,h=>by
  rw [zy89,zy127,zbx,zrp,zy8];rfl
 | P+1,act+1,k,h=>by
  rw [zy89,zy114,zbx,zrq P act (k+1) (by omega),show k+1+act=k+(act+1) by omega];rfl
theorem yza (h:SI N s) (r:SR E f T P Cs s g) (hT:s.clock<=T) (hok:(GM.zfl g).ok=true) :
 SR E f T P Cs (zfl s).1 (GM.zfl g)/\zyl (xhx f Cs g.act) (zfl s).2 (GM.pack 0 [] (GM.emG g))/\∀ y∈GM.emG g,zmy Cs y/\(y.1 % 2=0->y.1 / 2<(GM.zfl g).a+(GM.zfl g).out.length):=by
 obtain ⟨ok1,ok2,ok3⟩:=GM.yio hok;have h0:SI N (expire s):=(ztw h).1;have hex:=r.expire hT;have r0:PR E f T P Cs ⟨s,List.replicate s.paths.length []⟩ g []:=by
  refine ⟨r,?_,fun y hy=>by cases hy⟩;show List.replicate s.paths.length []=xay P g.act [];unfold xay;rw [r.np];apply zy71;intro i;by_cases e:g.act=i
  . subst e;rw [zy27 (by simpa using r.act),zy67,zy1 r.act]
  . rw [zy45 e]
 have r1:=yhg h r0;have h1:SI N (forward ⟨s,List.replicate s.paths.length []⟩).s:=zpv h;have r2:=ynj h1 r1;have h2:=zyo h1;obtain ⟨h3,r3⟩:=yef 61 h2 r2 zz0 ok2;have r4:=yzv h3 r3.sr;have zcq:(GM.ygj (GM.yqe (GM.zho (GM.zib g).1).1).1).act=g.act:=by
  show (GM.zib g).1.act=g.act;unfold GM.zib;cases g.fwd&&!Nat.beq (GM.lead g.out) 0<;>rfl
 have hact2:(GM.yqe (GM.zho (GM.zib g).1).1).1.act=g.act:=zcq;have hpp:zhy s=zgl 61 (again (forward ⟨s,List.replicate s.paths.length []⟩)):=by unfold zhy;rw [hex]
 refine ⟨?_,?_,fun y hy=>?_⟩
 . show SR E f T P Cs (ygk (zhy s).s) (GM.zfl g)
   rw [hpp];obtain ⟨a1,a2,a3,a4,a5,a6,a7,a8,a9,a10,a11,a12,a13,a14,a15,a16,a17,a18,a19,⟨l1,l2,l3,l4,l5,l6,l7⟩,a21⟩:=r4;exact ⟨a1,a2,a3,a4,a5,a6,a7,a8,a9,a10,a11,a12,a13,a14,a15,a16,a17,a18,a19,⟨l1,l2,l3,l4,l5,l6,l7⟩,a21⟩
 . show zyl _ (zbx s.config.packet 0 (zhy s).out) _
   rw [hpp,r3.po,r.pk,hact2];unfold xay;rw [zrq P g.act 0 r.act];rw [show ((0+g.act:Nat):Int)=(g.act:Int) by omega];have hlen:(chs f Cs ((GM.zib g).2++(GM.zho (GM.zib g).1).2++(GM.yqe (GM.zho (GM.zib g).1).1).2)).length=(GM.emG g).length:=by unfold chs;rw [zy2];rfl
   rw [hlen];exact yeq _ (GM.emG g) (zy22 _) fun y hy=>(r3.em y hy).1
 . exact r3.em y hy
end
end Tp
namespace Tp
open Ser Snd
section
variable {E:List Int} {N:Nat} {f T:Int} {P:Nat} {Cs:List CH} {s:zab} {g:GM}
theorem xak {act:Nat}:∀ (l:List zbr) (gl:List (Nat×Nat)) (k:Nat),l.length=gl.length->(∀ (j:Nat) x y,l[j]?=some x->gl[j]?=some y->xhw f Cs act (k+j) x y)->Sco.fl act l=GM.zak gl/\∀ i:Nat,i≠act->Sco.fl i l=0
 | [],[],_,_,_=>⟨rfl,fun _ _=>rfl⟩
 | x::l,y::gl,k,hl,h=>by
  have h0:=h 0 x y rfl rfl;obtain ⟨i1,i2⟩:=xak l gl (k+1) zz52 fun j x' y' hx hy=>by
   have:=h (j+1) x' y' zz46 (by simpa using hy);rw [show k+1+j=k+(j+1) by omega];exact this
  have e:∀ p:Int,Sco.fl p (x::l)=(if x.state=1/\x.path=p then x.chunk.data.length else 0)+Sco.fl p l:=fun p=>by simp [Sco.fl]
  rw [e,GM.zdw,i1];refine ⟨?_,fun i hi=>?_⟩
  . by_cases c:y.2=1
    . obtain ⟨z,z1,z2,z3⟩:=h0.ch zz0
      rw [zy1 ⟨by rw [h0.st,c];rfl,h0.path (.inl c)⟩,zy1 c,z2,z3];rfl
    . rw [zy0 (by rintro ⟨h1,-⟩;rw [h0.st] at h1;omega),zy0 c]
  . rw [e,i2 i hi,zy0]
    rintro ⟨h1,h2⟩;rw [h0.st] at h1;rw [h0.path (.inl (by omega))] at h2;omega
 | [],_::_,_,hl,_=>by cases hl
 | _::_,[],_,hl,_=>by cases hl
theorem yjp:∀ {l:List (Nat×Nat)},(∀ y∈l,y.2≠4->y.1<=4)->GM.bytes l<=4*l.length
 | [],_=>zy22 _
 | x::l,h=>by
  have:=yjp (l:=l) fun y hy=>h y zz47
  have hx:=h x zz4;rw [GM.zwn,zy5];split
  . omega
  . rename_i c;have:=hx c;omega
theorem yjs {c:Chunk} {n:Int} {act:Nat}:∀ (l:List zbr) (gl:List (Nat×Nat)) (k:Nat) (z:List Int),l.length=gl.length->(∀ (j:Nat) x y,l[j]?=some x->gl[j]?=some y->xhw f Cs act (k+j) x y) ->
 (∀ x∈l,Sco.here c n x=true)->(act=0\/∀ y∈gl,y.2≠3)->act<z.length->0<=z[act]?.getD 0->z[act]?.getD 0+GM.bytes gl<=2 ^ 40 ->
 (l.foldl (Sco.zic c n) z)[act]?.getD 0=z[act]?.getD 0+GM.bytes gl/\∀ i:Nat,i≠act->(l.foldl (Sco.zic c n) z)[i]?=z[i]?
 | [],[],_,z,_,_,_,_,_,_,_=>⟨by show z[act]?.getD 0=z[act]?.getD 0+((0:Nat):Int);omega,fun _ _=>rfl⟩
 | x::l,y::gl,k,z,hl,h,hh,ha,hz,h1,h2=>by
  have h0:=h 0 x y rfl rfl;have hx:=hh x zz4;rw [GM.zwn] at h2 ⊢;rw [zy39];have hz2:(Sco.zic c n z x).length=z.length:=by unfold Sco.zic Sco.zym;split<;>simp
  have hv:(Sco.zic c n z x)[act]?.getD 0=z[act]?.getD 0+((if y.2=4 then 0 else y.1:Nat):Int)/\∀ i:Nat,i≠act->(Sco.zic c n z x)[i]?=z[i]?:=by
   by_cases c4:y.2=4
   . have:Sco.comes c n x=false:=by unfold Sco.comes;rw [h0.st,c4];simp
     unfold Sco.zic;rw [this,zy1 c4];exact ⟨by show z[act]?.getD 0=z[act]?.getD 0+((0:Nat):Int);omega,fun _ _=>rfl⟩
   . have hst:=h0.st3
     have:Sco.comes c n x=true:=by
      unfold Sco.comes;rw [hx,h0.st];rcases (show y.2=1\/y.2=3 by omega) with e | e<;>rw [e]<;>rfl
     have hp:x.path=act:=h0.path (by
      rcases (show y.2=1\/y.2=3 by omega) with e | e
      . exact .inl e
      . exact .inr ⟨ha.resolve_right fun hn=>hn y zz4 e,e⟩)
     obtain ⟨w,w1,w2,w3⟩:=h0.ch c4;have hd:x.chunk.data.length=y.1:=by rw [w2,w3];rfl
     rw [zy0 c4] at h2 ⊢;unfold Sco.zic;rw [this,zy1 rfl];unfold Sco.zym;rw [hp,hd,show ((act:Nat):Int).toNat=act by omega,zbh (by omega) (by omega)];refine ⟨by rw [zy27 hz];rfl,fun i hi=>by rw [zy45 (fun e=>hi e.symm)]⟩
  obtain ⟨i1,i2⟩:=yjs l gl (k+1) (Sco.zic c n z x) zz52 (fun j x' y' hx hy=>by
   have:=h (j+1) x' y' zz46 (by simpa using hy);rw [show k+1+j=k+(j+1) by omega];exact this) (fun x' hx'=>hh x' (by simp [hx'])) (ha.imp id fun h y' hy'=>h y' (by simp [hy'])) (by rw [hz2];exact hz) (by rw [hv.1];omega) (by rw [hv.1];push_cast at h2 ⊢;omega)
  refine ⟨by rw [i1,hv.1];push_cast;omega,fun i hi=>by rw [i2 i hi,hv.2 i hi]⟩
 | [],_::_,_,_,hl,_,_,_,_,_,_=>by cases hl
 | _::_,[],_,_,hl,_,_,_,_,_,_=>by cases hl
theorem zwr {c:Chunk} {n:Int}:∀ (l:List zbr) (z:List Int),(∀ x∈l,Sco.comes c n x=false)->l.foldl (Sco.zic c n) z=z
 | [],_,_=>rfl
 | x::l,z,h=>by
  rw [zy39,show Sco.zic c n z x=z by unfold Sco.zic;rw [h x (by simp)];rfl];exact zwr l z fun y hy=>h y zz47
theorem yrx {c:Chunk} {n:Int}:∀ (l:List zbr) (z:Int),z<=n->(∀ x∈l,Sco.comes c n x=true->x.number<=n)->l.foldl (Sco.znm c n) z<=n
 | [],_,h,_=>h
 | x::l,z,h,hh=>by
  rw [zy39];refine yrx l _ ?_ fun y hy=>hh y zz47
  unfold Sco.znm;split
  . rename_i e;exact hh x zz4 e
  . exact h
theorem xbo {k:Int} {b:Nat} (hw:g.win<=100000) (hp:g.par<=100000) (hb:b<=200000):(if (b:Int)>0 then Paths.zvz (pathOf k g) b 4 true else pathOf k g)=pathOf k (GM.zvw g b):=by
 by_cases c1:b=0
 . subst c1
   rw [zy0 (by decide)];rfl
 rw [zy1 (by omega)];unfold GM.zvw Paths.zvz;dsimp only;rw [GM.zhe c1,zy0 (by omega)];by_cases c2:g.win<=g.slow
 . rw [zy1 (show (pathOf k g).window<=(pathOf k g).slow by show (g.win:Int)<=g.slow;omega),show Nat.ble g.win g.slow=true from zy63 c2]
   unfold pathOf;dsimp only [cond];rw [zbh (by omega) (by omega),show (g.win:Int)+min (b:Int) 4=((g.win+min b 4:Nat):Int) by omega];rfl
 . rw [zy0 (show ¬ (pathOf k g).window<=(pathOf k g).slow by show ¬ (g.win:Int)<=g.slow;omega),show Nat.ble g.win g.slow=false by cases hb:Nat.ble g.win g.slow with | false=>rfl | true=>exact absurd (zy11 hb) c2]
   have hW:W ((pathOf k g).gathered+b)=(g.par:Int)+b:=zbh (by show (-9223372036854775808:Int)<=(g.par:Int)+b;omega) (by show (g.par:Int)+b<=9223372036854775807;omega);rw [hW];by_cases c3:g.win<=g.par+b
   . rw [zy1 (show (g.par:Int)+b>=(pathOf k g).window by show (g.par:Int)+b>=g.win;omega),show Nat.ble g.win (g.par+b)=true from zy63 c3]
     unfold pathOf;dsimp only [cond];rw [zbh (by omega) (by omega),zbh (by omega) (by omega),show (g.par:Int)+b-g.win=((g.par+b-g.win:Nat):Int) by omega,show (g.win:Int)+4=((g.win+4:Nat):Int) by omega];rfl
   . rw [zy0 (show ¬ (g.par:Int)+b>=(pathOf k g).window by show ¬ (g.par:Int)+b>=g.win;omega),show Nat.ble g.win (g.par+b)=false by cases hb:Nat.ble g.win (g.par+b) with | false=>rfl | true=>exact absurd (zy11 hb) c3]
     unfold pathOf;dsimp only [cond];rw [show (g.par:Int)+b=((g.par+b:Nat):Int) by omega];rfl
theorem xbn {b:Nat} (l:Lim g) (hw:g.win<=100000) (hp:g.par<=100000) (hb:b<=200000):Lim (GM.zvw g b):=by
 have l1:=l.slow;have l2:=l.wait;have l3:=l.wait1;have l4:=l.al;have l5:=l.errs;unfold GM.zvw;cases Nat.beq b 0 with
 | true=>exact ⟨by show g.win<=_;omega,l1,by show g.par<=_;omega,l2,l3,l5,l4⟩
 | false =>
  dsimp only [cond];cases Nat.ble g.win g.slow with
  | true=>exact ⟨by show g.win+min b 4<=_;omega,l1,by show g.par<=_;omega,show 3<=24 by decide,show 1<=3 by decide,show 0<=2000 by decide,show 0<=24 by decide⟩
  | false =>
   dsimp only [cond];cases Nat.ble g.win (g.par+b) with
   | true=>exact ⟨by show g.win+4<=_;omega,l1,by show g.par+b-g.win<=_;omega,show 3<=24 by decide,show 1<=3 by decide,show 0<=2000 by decide,show 0<=24 by decide⟩
   | false=>exact ⟨by show g.win<=_;omega,l1,by show g.par+b<=_;omega,show 3<=24 by decide,show 1<=3 by decide,show 0<=2000 by decide,show 0<=24 by decide⟩
theorem zsz (g:GM) (b:Nat):(GM.zvw g b).ok=g.ok/\(GM.zvw g b).out=g.out/\(GM.zvw g b).a=g.a/\(GM.zvw g b).todo=g.todo/\(GM.zvw g b).fwd=g.fwd/\(GM.zvw g b).act=g.act/\(GM.zvw g b).R=g.R/\(GM.zvw g b).way=g.way/\((GM.zvw g b).errs=g.errs\/(GM.zvw g b).errs=0):=by
 unfold GM.zvw;cases Nat.beq b 0 with
 | true=>exact ⟨rfl,rfl,rfl,rfl,rfl,rfl,rfl,rfl,.inl rfl⟩
 | false =>
  dsimp only [cond];cases Nat.ble g.win g.slow with
  | true=>exact ⟨rfl,rfl,rfl,rfl,rfl,rfl,rfl,rfl,.inr rfl⟩
  | false =>
   dsimp only [cond];cases Nat.ble g.win (g.par+b) with
   | true=>exact ⟨rfl,rfl,rfl,rfl,rfl,rfl,rfl,rfl,.inr rfl⟩
   | false=>exact ⟨rfl,rfl,rfl,rfl,rfl,rfl,rfl,rfl,.inr rfl⟩
theorem yho {c:Nat} (h:(GM.zkc g c).ok=true):g.ok=true/\g.a<=c/\c-g.a<=g.out.length/\(g.act=0\/∀ y∈g.out.take (c-g.a),y.2≠3)/\g.win<=100000/\g.par<=100000:=by
 unfold GM.zkc at h;rw [(zsz _ _).1] at h;have h:(((((g.ok&&Nat.ble g.a c)&&Nat.ble (c-g.a) g.out.length)&&(Nat.beq g.act 0||(g.out.take (c-g.a)).all fun x=>!Nat.beq x.2 3))&&Nat.ble g.win 100000)&&Nat.ble g.par 100000)=true:=h;refine ⟨GM.zdv (GM.zdv (GM.zdv (GM.zdv (GM.zdv h)))),zy11 (GM.zhp (GM.zdv (GM.zdv (GM.zdv (GM.zdv h))))),zy11 (GM.zhp (GM.zdv (GM.zdv (GM.zdv h)))),?_,zy11 (GM.zhp (GM.zdv h)),zy11 (GM.zhp h)⟩;have h2:=GM.zhp (GM.zdv (GM.zdv h));rw [zy105] at h2;refine h2.imp zy4 fun h3 y hy e=>?_
 have:=zy7.1 h3 y hy;rw [e] at this;cases this
theorem yxg (h:SI N s) (hN:N<=500) (r:SR E f T P Cs s g) {ch:Chunk} {c:Nat} (h1:ch.kind=2) (h2:ch.tag=tag (f-1+c)) (h3:ch.zau=[]) (h4:280<=ch.room) (hok:(GM.zkc g c).ok=true):SR E f T P Cs (zkc s ch) (GM.zkc g c):=by
 obtain ⟨-,o1,o2,o3,o4,o5⟩:=yho hok;have hlen:=r.len;have hcum:=r.cum;have hf0:=r.f0;have hf1:=r.f1;have hw:=zcn h.cfg;have hnx:=h.nextle;have hnx2:=h.next;have hmany:=h.many;have howe:=h.owes;have hcu:=h.cum;have hsm:s.out.length<=30510:=by
  have:=yag hw.2.2.2.2.1 h.queue;omega
 obtain ⟨k,rfl⟩:∃ k,c=g.a+k:=⟨c-g.a,by omega⟩
 rw [show g.a+k-g.a=k by omega] at o2 o3;have hnear:zdf s.cum ch.tag=s.cum+k:=Rcv.zlp zz0 zz0 zz0 zz0 (by rw [h2];unfold tag;omega);have hkk:¬ (zdf s.cum ch.tag<s.cum\/zdf s.cum ch.tag>s.cum+s.out.length):=by rw [hnear];omega
 unfold zkc;rw [zy0 (by omega),zy0 hkk,zkd];have hTsi:=yde h hkk;have hfil:=zni h.nums (show s.cum<=zdf s.cum ch.tag by omega);have hhere:∀ (j:Nat) x,s.out[j]?=some x->Sco.here ch (s.cum+k) x=decide (j<k):=by
  intro j x hx;have:=h.nums j x hx;unfold Sco.here;rw [h3];show (decide (x.number<=s.cum+k)||false)=_;rw [Bool.or_false,zy160];omega
 have hquiet:∀ x∈s.out.drop k,Sco.comes ch (s.cum+k) x=false:=by
  intro x hx;obtain ⟨j,hj⟩:=zy61 hx;rw [zy44] at hj;unfold Sco.comes;rw [hhere _ x hj,zy19 (by omega)];rfl
 have hhigh:Sco.zku ch (s.cum+k) s.out<=s.cum+k+1:=by
  unfold Sco.zku;have hz:∀ (l:List zbr) (z:Int),(∀ x∈l,Sco.comes ch (s.cum+k) x=false)->l.foldl (Sco.znm ch (s.cum+k)) z=z:=by
   intro l
   induction l with
   | nil=>intro z _;rfl
   | cons x l ih =>
    intro z hl;rw [zy39,show Sco.znm ch (s.cum+k) z x=z by unfold Sco.znm;rw [hl x (by simp)];rfl];exact ih z fun y hy=>hl y zz47
  by_cases e:s.cum+k<0
  . have e0:k=0:=by omega
    rw [hz s.out 0 (by subst e0;simpa using hquiet)];omega
  . refine Int.le_trans (yrx (n:=s.cum+k) _ 0 zz0 fun x hx hc=>?_) zz0
    obtain ⟨j,hj⟩:=zy61 hx;have:=h.nums j x hj;unfold Sco.comes at hc;rw [hhere j x hj] at hc;simp at hc;omega
 have hs1:(Sco.zfq s.out s.cum ch s.paths.length).1=s.out.drop k:=by
  rw [Sco.zfq,zy0 hkk];dsimp only;rw [Sco.left,hfil,zy95,hnear,show (s.cum+(k:Int)-s.cum).toNat=k by omega]
  conv=>rhs;rw [<- List.map_id (s.out.drop k)]
  refine zy86 fun x hx=>?_
  show Sco.age (Sco.zku ch (s.cum+k) s.out) (Sco.zbp ch (s.cum+k) x)=x;rw [show Sco.zbp ch (s.cum+k) x=x by unfold Sco.zbp;rw [hquiet x hx];rfl];unfold Sco.age;rw [zy0];rintro ⟨-,e⟩;obtain ⟨j,hj⟩:=zy61 hx;rw [zy44] at hj;have:=h.nums _ x hj;omega
 have hs2:(Sco.zfq s.out s.cum ch s.paths.length).2.1=s.cum+k:=by rw [Sco.zfq,zy0 hkk];exact hnear
 have hs4:(Sco.zfq s.out s.cum ch s.paths.length).2.2.2=[]:=by
  rw [Sco.zfq,zy0 hkk];show Sco.lost (Sco.zku ch (zdf s.cum ch.tag) s.out) (Sco.left ch (zdf s.cum ch.tag) s.out)=[];unfold Sco.lost;rw [zy123,zy112];intro x hx;unfold Sco.left at hx;obtain ⟨y,hy,rfl⟩:=zy28.1 hx;rw [hnear] at hy ⊢;have hyn:=(zy91.1 hy).2;have hn:(Sco.zbp ch (s.cum+k) y).number=y.number:=by unfold Sco.zbp;split<;>rfl
  simp at hyn;simp only [zy49];rintro ⟨-,e,-⟩;omega
 have hb:GM.bytes (g.out.take k)<=200000:=by
  have:=yjp (l:=g.out.take k) fun y hy h4=>by
   obtain ⟨j,hj⟩:=zy61 (zy65 hy);obtain ⟨x,hx⟩:∃ x,s.out[j]?=some x:=⟨_,zy3 (by have:=Gh.zgd hj;omega)⟩
   obtain ⟨c,c1,c2,c3⟩:=(r.out j x y hx hj).ch h4;have:=(r.zed c (zy12 c1)).d4;omega
  rw [zy52] at this;omega
 have hs3:((Sco.zfq s.out s.cum ch s.paths.length).2.2.1)[g.act]?.getD 0=GM.bytes (g.out.take k)/\∀ i:Nat,i≠g.act->((Sco.zfq s.out s.cum ch s.paths.length).2.2.1)[i]?.getD 0=0:=by
  rw [Sco.zfq,zy0 hkk];dsimp only;rw [hnear];unfold Sco.zre;have hn:(s.paths.length:Int).toNat=P:=by rw [r.np];omega
  rw [hn,<- zy25 k s.out,zy77,zwr _ _ hquiet];have zcq:=r.act;obtain ⟨i1,i2⟩:=yjs (f:=f) (Cs:=Cs) (c:=ch) (n:=s.cum+k) (act:=g.act) (s.out.take k) (g.out.take k) g.a (List.replicate P 0) (by rw [zy52,zy52,hlen]) (fun j x y hx hy=>by
   rw [zy46] at hx hy;split at hx
   . rename_i hj;rw [zy1 hj] at hy;exact r.out j x y hx hy
   . cases hx) (fun x hx=>by
     obtain ⟨j,hj⟩:=zy61 hx;rw [zy46] at hj;split at hj
     . rename_i hjk;rw [hhere j x hj,zy16 hjk]
     . cases hj) o3 (by simpa using zcq) (by rw [zy67,zy1 zcq];exact zy99 _) (by rw [zy67,zy1 zcq];show (0:Int)+_<=_;omega)
  refine ⟨?_,fun i hi=>?_⟩
  . rw [i1,zy67,zy1 zcq];show (0:Int)+_=_;omega
  . rw [i2 i hi,zy67];split<;>rfl
 have hsackT:zgo s ch (Sco.zfq s.out s.cum ch s.paths.length)=zek {s with out:=s.out.drop k,cum:=s.cum+k,room:=ch.room,paths:=zgr s.paths s.config.part (decide (s.cum+k>s.cum)) (Sco.zfq s.out s.cum ch s.paths.length).2.2.1}:=by
  unfold zgo;rw [hs1,hs2]
 have hfl:=xak (act:=g.act) (s.out.drop k) (g.out.drop k) (g.a+k) (by rw [zy34,zy34,hlen]) (fun j x y hx hy=>by
  rw [zy44] at hx hy;rw [show g.a+k+j=g.a+(k+j) by omega];exact r.out (k+j) x y hx hy)
 -- the sender before the rest
 have hg0:GM.zkc g (g.a+k)=GM.zvw (GM.zwi g (g.a+k)) (GM.bytes (g.out.take k)):=by unfold GM.zkc;rw [show g.a+k-g.a=k by omega]
 have hg1:GM.zwi g (g.a+k)={g with out:=g.out.drop k,a:=g.a+k,fwd:=bif Nat.beq k 0||Nat.beq (GM.lead (g.out.drop k)) 0 then g.fwd else true,ok:=(GM.zwi g (g.a+k)).ok}:=by
  unfold GM.zwi;rw [show g.a+k-g.a=k by omega]
 generalize hGG:GM.zvw {g with out:=g.out.drop k,a:=g.a+k} (GM.bytes (g.out.take k))=G;obtain ⟨q1,q2,q3,q4,q5,q6,q7,q8,q9⟩:=zsz {g with out:=g.out.drop k,a:=g.a+k} (GM.bytes (g.out.take k));rw [hGG] at q1 q2 q3 q4 q5 q6 q7 q8 q9;dsimp only at q1 q2 q3 q4 q5 q6 q7 q8 q9;have hT:SR E f T P Cs (zgo s ch (Sco.zfq s.out s.cum ch s.paths.length)) G:=by
  have hqq:G.a+G.out.length=g.a+g.out.length:=by rw [q2,q3,zy34];omega
  rw [hsackT];refine ⟨⟨r.qc.turns,r.qc.part,r.qc.ord,r.qc.mids,r.qc.ends⟩,r.pk,?_,by rw [q3];show s.cum+(k:Int)=_;push_cast;omega,by rw [q2];show (s.out.drop k).length=_;rw [zy34,zy34,hlen],fun j x y hx hy=>?_,by rw [hqq];exact r.rest,by rw [hqq,q4];exact r.todo,r.zed,?_,fun i q hi hq=>?_,fun hP=>by have:=r.errs hP;omega,by rw [q5];exact r.fwd,h4,r.clk0,r.clk,r.small,r.f0,r.f1,?_,⟨r.due.queue,fun z hz=>r.due.out z (zy81 hz)⟩⟩
  . show (List.mapIdx _ (zgr _ _ _ _)).length=P
    unfold zgr;rw [zy94,zy94];exact r.np
  . have hx:(s.out.drop k)[j]?=some x:=hx
    rw [q2] at hy;rw [zy44] at hx hy;rw [q3,q6,show g.a+k+j=g.a+(k+j) by omega];exact r.out (k+j) x y hx hy
  . rw [q6]
    show (List.mapIdx (fun i p=>flP (s.out.drop k) i p) (zgr s.paths _ _ _))[g.act]?=_;unfold zgr;rw [zy48,zy48,r.path];show some (flP (s.out.drop k) g.act (if _>(0:Int) then Paths.zvz (pathOf s.clock g) _ _ _ else pathOf s.clock g))=_;rw [hs3.1,r.qc.part];have hm:∀ b:Nat,b=GM.bytes (g.out.take k)->(if (b:Int)>0 then Paths.zvz (pathOf s.clock g) b 4 (decide (s.cum+k>s.cum)) else pathOf s.clock g)=pathOf s.clock (GM.zvw g b):=by
     intro b hbb;rw [<- xbo o4 o5 (by omega)];by_cases e:k=0
     . have:b=0:=by rw [hbb,e];rfl
       subst this;rw [zy0 (by decide),zy0 (by decide)]
     . rw [zy16 (by omega)]
    rw [hm _ rfl];congr 1;unfold flP;rw [hfl.1,<- hGG];show ({pathOf s.clock (GM.zvw g (GM.bytes (g.out.take k))) with zak:=(GM.zak (g.out.drop k):Int)}:Path)=_;unfold pathOf GM.zvw;exact yy44
  . have hq:(List.mapIdx (fun i p=>flP (s.out.drop k) i p) (zgr s.paths s.config.part (decide (s.cum+k>s.cum)) (Sco.zfq s.out s.cum ch s.paths.length).2.2.1))[i]?=some q:=hq
    unfold zgr at hq;rw [zy48,zy48] at hq;rw [q6] at hi ⊢;cases hz:s.paths[i]? with
    | none=>rw [hz] at hq;cases hq
    | some z =>
     rw [hz] at hq;have hq:flP (s.out.drop k) i (if ((Sco.zfq s.out s.cum ch s.paths.length).2.2.1)[i]?.getD 0>0 then Paths.zvz z (((Sco.zfq s.out s.cum ch s.paths.length).2.2.1)[i]?.getD 0) s.config.part (decide (s.cum+k>s.cum)) else z)=q:=by simpa using hq
     rw [hs3.2 i hi,zy0 (by decide)] at hq;obtain ⟨z1,z2,z3,z4⟩:=r.other i z hi hz;have:flP (s.out.drop k) i z=z:=by
      unfold flP;rw [hfl.2 i hi,<- show z.zak=((0:Nat):Int) from z1]
     rw [<- hq,this];exact ⟨z1,z2,z3,z4⟩
  . rw [<- hGG]
    exact xbn ⟨r.lim.win,r.lim.slow,r.lim.par,r.lim.wait,r.lim.wait1,r.lim.errs,r.lim.al⟩ o4 o5 hb
 rw [hs4];show SR E f T P Cs (Snd.settle (zen _ (zgo s ch _))) _;have hpt:=hT.zdy hTsi;have hV:SR E f T P Cs (zen (decide ((Sco.zfq s.out s.cum ch s.paths.length).2.1>s.cum)) (zgo s ch (Sco.zfq s.out s.cum ch s.paths.length))) (GM.zkc g (g.a+k)):=by
  have hfwd:∀ (b:Bool) (o:Bool) (t:zab),SR E f T P Cs t G->SR E f T P Cs {t with forward:=b} {G with fwd:=b,ok:=o}:=by
   intro b o t ⟨a1,a2,a3,a4,a5,a6,a7,a8,a9,a10,a11,a12,a13,a14,a15,a16,a17,a18,a19,a20,a21⟩;exact yy58
  have hGH:GM.zkc g (g.a+k)={G with fwd:=bif Nat.beq k 0||Nat.beq (GM.lead (g.out.drop k)) 0 then g.fwd else true,ok:=(GM.zwi g (g.a+k)).ok}:=by
   rw [hg0,hg1,<- hGG];unfold GM.zvw;exact yy44
  rw [hGH,hs2];unfold zen;rw [hpt];have hle:GM.lead G.out=GM.lead (g.out.drop k):=by rw [q2]
  by_cases e1:k=0
  . rw [zy0 (by rintro ⟨e,-⟩;rw [zy19 (by omega)] at e;cases e),GM.zfk e1]
    have:=hfwd g.fwd (GM.zwi g (g.a+k)).ok _ hT;rw [show (bif true||Nat.beq (GM.lead (g.out.drop k)) 0 then g.fwd else true)=g.fwd from rfl];exact yy88
  . by_cases e3:GM.lead (g.out.drop k)=0
    . rw [zy0 (by rintro ⟨-,e⟩;dsimp only at e;omega),GM.zhe e1,GM.zfk e3]
      have:=hfwd g.fwd (GM.zwi g (g.a+k)).ok _ hT;rw [show (bif false||true then g.fwd else true)=g.fwd from rfl];exact yy88
    . rw [zy1 ⟨zy16 (by omega),by dsimp only;omega⟩,GM.zhe e1,GM.zhe e3]
      exact hfwd true (GM.zwi g (g.a+k)).ok _ hT
 generalize zen (decide ((Sco.zfq s.out s.cum ch s.paths.length).2.1>s.cum)) (zgo s ch (Sco.zfq s.out s.cum ch s.paths.length))=u at hV;obtain ⟨a1,a2,a3,a4,a5,a6,a7,a8,a9,a10,a11,a12,a13,a14,a15,a16,a17,a18,a19,a20,a21⟩:=hV;exact ⟨⟨a1.turns,a1.part,a1.ord,a1.mids,a1.ends⟩,a2,a3,a4,a5,a6,a7,a8,a9,a10,a11,a12,a13,a14,a15,a16,a17,a18,a19,a20,⟨a21.queue,fun z hz=>(a21.out z hz).imp (Gh.yis u (k:=z.id.toNat)) id⟩⟩
theorem zui:∀ l:List (Nat×Nat),GM.zak (GM.zhw l)=0
 | []=>rfl
 | x::l=>by
  have ih:=zui l;show GM.zak ((bif Nat.beq x.2 1 then (x.1,3) else x)::GM.zhw l)=0;rw [GM.zdw,ih];by_cases c:x.2=1
  . rw [GM.zfk c];rfl
  . rw [GM.zhe c]
    show (if x.2=1 then x.1 else 0)+0=0;rw [zy0 c]
theorem xew {two:Bool} (h:(GM.zij two g).ok=true):g.ok=true:=by
 unfold GM.zij at h;split at h
 . exact h
 . cases hc:two&&Nat.beq g.act 0&&Nat.ble 3 g.errs with
   | true=>rw [hc] at h;exact h
   | false=>rw [hc] at h;exact GM.zdv (GM.zdv (GM.zdv h))
 . exact h
theorem zkg {part:Int} {i:Nat} {p:Path} (hp:s.paths[i]?=some p) (h:p.zcj=0\/s.clock<p.zcj):zem part s i=s:=by
 unfold zem;rw [hp];dsimp only;rw [zy1 h]
theorem zxj {part:Int} {i:Nat} (hp:s.paths[i]?=none):zem part s i=s:=by
 unfold zem;rw [hp]
theorem SR.setfwd (r:SR E f T P Cs s g) (b o:Bool):SR E f T P Cs {s with forward:=b} {g with fwd:=b,ok:=o}:=by
 obtain ⟨a1,a2,a3,a4,a5,a6,a7,a8,a9,a10,a11,a12,a13,a14,a15,a16,a17,a18,a19,a20,a21⟩:=r;exact yy58
theorem xfy (r:SR E f T P Cs s g) (hc:s.clock+1<=100000) {w sl wt er ac:Nat} (hac:ac=g.act\/ac≠0) (hl:Lim {g with win:=w,slow:=sl,par:=0,al:=0,wait:=wt,errs:=er}) (he:P=2->er<=3)
 (hp:(s.paths.set g.act (Paths.late (pathOf s.clock g) 4))[ac]?=some ⟨w,sl,0,0,er,0,wt⟩)
 (ho:∀ (i:Nat) p,i≠ac->(s.paths.set g.act (Paths.late (pathOf s.clock g) 4))[i]?=some p->p.zak=0/\p.zcj=0/\(i<ac->3<p.errors)/\(ac<i->p=Paths.new 4)) :
 SR E f T P Cs {s with clock:=s.clock+1,out:=s.out.map (Sco.late g.act),paths:=s.paths.set g.act (Paths.late (pathOf s.clock g) 4)} {g with out:=GM.zhw g.out,win:=w,slow:=sl,par:=0,al:=0,wait:=wt,errs:=er,act:=ac}:=by
 have hll:(GM.zhw g.out).length=g.out.length:=by unfold GM.zhw;rw [zy2]
 have hc0:=r.clk0;refine ⟨⟨r.qc.turns,r.qc.part,r.qc.ord,r.qc.mids,r.qc.ends⟩,r.pk,by show (List.set _ _ _).length=P;rw [zy30];exact r.np,r.cum,by show (s.out.map _).length=(GM.zhw g.out).length;rw [zy2,hll];exact r.len,fun j x y hx hy=>?_,by rw [hll];exact r.rest,by rw [hll];exact r.todo,r.zed,?_,ho,he,r.fwd,r.room,by show 0<=s.clock+1;omega,hc,r.small,r.f0,r.f1,⟨hl.win,hl.slow,hl.par,hl.wait,hl.wait1,hl.errs,hl.al⟩,⟨r.due.queue,fun z hz=>?_⟩⟩
 . have hx:(s.out.map (Sco.late g.act))[j]?=some x:=hx
   have hy:(g.out.map fun x=>bif Nat.beq x.2 1 then (x.1,3) else x)[j]?=some y:=hy;rw [zy10] at hx hy;cases hx0:s.out[j]? with
   | none=>rw [hx0] at hx;cases hx
   | some x0 =>
   cases hy0:g.out[j]? with
   | none=>rw [hy0] at hy;cases hy
   | some y0 =>
   rw [hx0] at hx;rw [hy0] at hy;have hx:Sco.late g.act x0=x:=by simpa using hx
   have hy:(bif Nat.beq y0.2 1 then (y0.1,3) else y0)=y:=by simpa using hy
   obtain ⟨a1,a2,a3,a4,a5⟩:=r.out j x0 y0 hx0 hy0;by_cases c1:y0.2=1
   . rw [GM.zfk c1] at hy
     have hp1:=a5 (.inl c1);have:Sco.late g.act x0={x0 with state:=3}:=by unfold Sco.late;rw [zy1 ⟨by rw [a1,c1];rfl,hp1⟩]
     rw [this] at hx;subst hx;subst hy;exact ⟨rfl,.inr (.inl rfl),fun _=>a3 zz0,fun h=>(by cases h),fun h=>by
      rcases h with h | ⟨h,-⟩
      . cases h
      . show x0.path=(ac:Int)
        rw [hp1,hac.resolve_right fun hn=>hn h]⟩
   . rw [GM.zhe c1] at hy
     have:Sco.late g.act x0=x0:=by unfold Sco.late;rw [zy0];rintro ⟨h,-⟩;rw [a1] at h;omega
     rw [this] at hx;have hy:y0=y:=hy;subst hx;subst hy;refine ⟨a1,a2,a3,a4,fun h=>?_⟩;rcases h with h | ⟨h,h2⟩
     . exact absurd h c1
     . have he:=hac.resolve_right fun hn=>hn h
       rw [show ((ac:Nat):Int)=(g.act:Int) by rw [he]];exact a5 (.inr ⟨he ▸ h,h2⟩)
 . show (s.paths.set g.act (Paths.late (pathOf s.clock g) 4))[ac]?=some ⟨w,sl,((0:Nat):Int),(GM.zak (GM.zhw g.out):Int),er,if (0:Nat)=0 then 0 else _,wt⟩
   rw [hp,zui,zy1 rfl];rfl
 . have hz:z∈s.out.map (Sco.late g.act):=hz
   obtain ⟨x,hx,rfl⟩:=zy28.1 hz;have e:(Sco.late g.act x).id=x.id/\(Sco.late g.act x).tries=x.tries/\(Sco.late g.act x).came=x.came/\(Sco.late g.act x).life=x.life:=by unfold Sco.late;split<;>exact ⟨rfl,rfl,rfl,rfl⟩
   rw [e.1,e.2.1,e.2.2.1,e.2.2.2];exact r.due.out x hx
theorem ywz {P act:Nat} {part:Int} {s:zab} (hP:P=1\/P=2) (ha:act<P) (h:∀ i,i≠act->zem part s i=s) (h2:∀ i,i≠act->zem part (zem part s act) i=zem part s act):(List.range P).foldl (zem part) s=zem part s act:=by
 rcases hP with rfl | rfl
 . have:act=0:=by omega
   subst this;rfl
 . show zem part (zem part s 0) 1=zem part s act
   rcases (show act=0\/act=1 by omega) with rfl | rfl
   . exact h2 1 zz5
   . rw [h 0 (by decide)]
theorem yzs (h:SI N s) (r:SR E f T P Cs s g) (hc:s.clock+1<=100000) {two:Bool} (htwo:two=decide (P=2)) (hok:(GM.zij two g).ok=true):SR E f T P Cs (tick s) (GM.zij two g):=by
 have hc0:=r.clk0;have hsm:=r.small;have zcq:=r.act;have hP:=r.p12 h;have hW:W (s.clock+1)=s.clock+1:=zbh zz0 zz0;have h1:SI N {s with clock:=s.clock+1}:=h.side rfl h.zak;have hpath:=r.path;have hq:∀ i,i≠g.act->zem s.config.part {s with clock:=s.clock+1} i={s with clock:=s.clock+1}:=by
  intro i hi;cases hz:s.paths[i]? with
  | none=>exact zxj hz
  | some z=>exact zkg hz (.inl (r.other i z hi hz).2.1)
 have hpa:∀ i,i≠g.act->(zem s.config.part {s with clock:=s.clock+1} g.act).paths[i]?=s.paths[i]?:=by
  intro i hi;unfold zem;split
  . rfl
  . split
    . rfl
    . dsimp only
      split
      . show (s.paths.set g.act _)[i]?=_;rw [zy45 fun e=>hi e.symm]
      . show (s.paths.set g.act _)[i]?=_;rw [zy45 fun e=>hi e.symm]
 have hq2:∀ i,i≠g.act->zem s.config.part (zem s.config.part {s with clock:=s.clock+1} g.act) i=zem s.config.part {s with clock:=s.clock+1} g.act:=by
  intro i hi;cases hz:s.paths[i]? with
  | none=>exact zxj (by rw [hpa i hi];exact hz)
  | some z=>exact zkg (by rw [hpa i hi];exact hz) (.inl (r.other i z hi hz).2.1)
 have hti:tick s=zem s.config.part {s with clock:=s.clock+1} g.act:=by
  unfold tick;rw [hW,r.np];exact ywz hP zcq hq hq2
 rw [hti,r.qc.part];have still:∀ al':Nat,al'<=24->(pathOf s.clock g)=pathOf (s.clock+1) {g with al:=al'}->SR E f T P Cs {s with clock:=s.clock+1} {g with al:=al'}:=by
  intro al' hal hpp;refine ⟨⟨r.qc.turns,r.qc.part,r.qc.ord,r.qc.mids,r.qc.ends⟩,r.pk,r.np,r.cum,r.len,r.out,r.rest,r.todo,r.zed,?_,r.other,r.errs,r.fwd,r.room,by show 0<=s.clock+1;omega,hc,r.small,r.f0,r.f1,⟨r.lim.win,r.lim.slow,r.lim.par,r.lim.wait,r.lim.wait1,r.lim.errs,hal⟩,⟨r.due.queue,r.due.out⟩⟩;show s.paths[g.act]?=_;rw [hpath,hpp]
 have hlal:=r.lim.al;have hlw:=r.lim.wait;have hlw1:=r.lim.wait1;rcases hal:g.al with _ | _ | n
 . have e1:GM.zij two g=g:=by unfold GM.zij;rw [hal]
   rw [e1,zkg (s:={s with clock:=s.clock+1}) hpath (.inl (by show (if g.al=0 then (0:Int) else _)=0;rw [zy1 hal]))];have:=still 0 zz0 (by unfold pathOf;rw [zy1 hal,zy1 rfl]);rw [<- hal] at this;exact this
 . -- the zcj
   have hfire:zem 4 {s with clock:=s.clock+1} g.act=(if (Sco.zdy (s.out.map (Sco.late g.act)) s.cum).1>s.cum then {s with clock:=s.clock+1,out:=s.out.map (Sco.late g.act),paths:=s.paths.set g.act (Paths.late (pathOf s.clock g) 4),forward:=true} else {s with clock:=s.clock+1,out:=s.out.map (Sco.late g.act),paths:=s.paths.set g.act (Paths.late (pathOf s.clock g) 4)}):=by
    unfold zem;dsimp only;rw [hpath];dsimp only;rw [zy0];have:(pathOf s.clock g).zcj=s.clock+1:=by
     show (if g.al=0 then (0:Int) else s.clock+(g.al:Int))=_;rw [zy0 (by omega),hal];rfl
    rw [this];omega
   have hsi:=ylq h1 4 g.act;rw [hfire] at hsi ⊢;have hsi2:SI N {s with clock:=s.clock+1,out:=s.out.map (Sco.late g.act),paths:=s.paths.set g.act (Paths.late (pathOf s.clock g) 4)}:=by
    split at hsi
    . exact hsi.side rfl hsi.zak
    . exact hsi
   have fin:∀ {G:GM} {o:Bool},SR E f T P Cs {s with clock:=s.clock+1,out:=s.out.map (Sco.late g.act),paths:=s.paths.set g.act (Paths.late (pathOf s.clock g) 4)} G->G.out=GM.zhw g.out->G.fwd=g.fwd ->
    SR E f T P Cs (if (Sco.zdy (s.out.map (Sco.late g.act)) s.cum).1>s.cum then {s with clock:=s.clock+1,out:=s.out.map (Sco.late g.act),paths:=s.paths.set g.act (Paths.late (pathOf s.clock g) 4),forward:=true} else {s with clock:=s.clock+1,out:=s.out.map (Sco.late g.act),paths:=s.paths.set g.act (Paths.late (pathOf s.clock g) 4)}) {G with fwd:=bif Nat.beq (GM.lead (GM.zhw g.out)) 0 then g.fwd else true,ok:=o}:=by
    intro G o hG ho hf;have hpt:(Sco.zdy (s.out.map (Sco.late g.act)) s.cum).1=s.cum+GM.lead G.out:=congrArg Prod.fst (hG.zdy hsi2);have hle:GM.lead G.out=GM.lead (GM.zhw g.out):=by rw [ho]
    rw [hpt];by_cases e:GM.lead (GM.zhw g.out)=0
    . rw [zy0 (by omega),GM.zfk e]
      have:=hG.setfwd g.fwd o;have e2:s.forward=g.fwd:=r.fwd;rw [<- e2] at this ⊢;exact this
    . rw [zy1 (by omega),GM.zhe e]
      exact hG.setfwd true o
   have hlate:∀ h:g.win<=100000,Paths.late (pathOf s.clock g) 4=⟨4,(max (g.win / 2) 16:Nat),0,0,(g.errs+1:Nat),0,(min (2*g.wait) 24:Nat)⟩:=by
    intro hwin;have:=r.lim.errs;unfold Paths.late pathOf;dsimp only;rw [zbh (show (-9223372036854775808:Int)<=(g.win:Int).tdiv 2 by rw [zy139 (by omega)];omega) (by rw [zy139 (by omega)];omega),zbh zz0 zz0,zbh zz0 zz0,zbh zz0 zz0,zy139 zz0];congr 1<;>omega
   have hactl:g.act<s.paths.length:=by rw [r.np];exact zcq
   by_cases hsw:(two&&Nat.beq g.act 0&&Nat.ble 3 g.errs)=true
   . -- to the other path
     have e1:GM.zij two g={g with out:=GM.zhw g.out,fwd:=bif Nat.beq (GM.lead (GM.zhw g.out)) 0 then g.fwd else true,win:=8,slow:=128,par:=0,al:=0,wait:=3,errs:=0,act:=1}:=by
      unfold GM.zij;rw [hal];dsimp only;rw [hsw];rfl
     have hP2:P=2:=by
      have:=GM.zdv (GM.zdv hsw);rw [htwo] at this;exact zy43 this
     have ha0:g.act=0:=zy4 (GM.zhp (GM.zdv hsw));have he3:3<=g.errs:=zy11 (GM.zhp hsw);have her:=r.errs hP2;obtain ⟨q,hq1⟩:∃ q,s.paths[1]?=some q:=⟨_,zy3 (by rw [r.np];omega)⟩
     have hqn:=(r.other 1 q zz0 hq1).2.2.2 zz0;rw [e1];have:=xfy r hc (w:=8) (sl:=128) (wt:=3) (er:=0) (ac:=1) (.inr zz5) ⟨show 8<=200000 by decide,show 128<=200000 by decide,show 0<=400000 by decide,show 3<=24 by decide,show 1<=3 by decide,show 0<=2000 by decide,show 0<=24 by decide⟩ (fun _=>by decide) (by rw [ha0,zy45 (by decide),hq1,hqn];rfl) (fun i p hi hp=>by
      rw [ha0] at hp;rcases zy115 i with rfl | hpos
      . rw [zy27 (by omega)] at hp
        cases hp;refine ⟨rfl,rfl,fun _=>?_,fun h=>by omega⟩;show (3:Int)<W ((g.errs:Int)+1);rw [zbh (by omega) (by omega)];omega
      . have:=Gh.zgd hp
        rw [zy30,r.np] at this;omega)
     exact fin this rfl rfl
   . have hsw:(two&&Nat.beq g.act 0&&Nat.ble 3 g.errs)=false:=by cases hb:(two&&Nat.beq g.act 0&&Nat.ble 3 g.errs) with | true=>exact absurd hb hsw | false=>rfl
     have e1:GM.zij two g={g with out:=GM.zhw g.out,fwd:=bif Nat.beq (GM.lead (GM.zhw g.out)) 0 then g.fwd else true,win:=4,slow:=max (g.win / 2) 16,par:=0,al:=0,wait:=min (2*g.wait) 24,errs:=g.errs+1,ok:=g.ok&&(!two||Nat.ble (g.errs+1) 3)&&Nat.ble g.win 100000&&Nat.ble g.errs 1000}:=by
      unfold GM.zij;rw [hal];dsimp only;rw [hsw];rfl
     rw [e1] at hok ⊢;have hok:(((g.ok&&(!two||Nat.ble (g.errs+1) 3))&&Nat.ble g.win 100000)&&Nat.ble g.errs 1000)=true:=hok;have o1:g.errs<=1000:=zy11 (GM.zhp hok);have o2:g.win<=100000:=zy11 (GM.zhp (GM.zdv hok));have o3:P=2->g.errs+1<=3:=fun hP2=>by
      have:=GM.zhp (GM.zdv (GM.zdv hok));rw [htwo,zy16 hP2] at this;exact zy11 this
     have:=xfy r hc (w:=4) (sl:=max (g.win / 2) 16) (wt:=min (2*g.wait) 24) (er:=g.errs+1) (ac:=g.act) (.inl rfl) ⟨show 4<=200000 by decide,by show max (g.win / 2) 16<=200000;omega,show 0<=400000 by decide,by show min (2*g.wait) 24<=24;omega,by show 1<=min (2*g.wait) 24;omega,by show g.errs+1<=2000;omega,show 0<=24 by decide⟩ o3 (by rw [zy27 hactl,hlate o2];rfl) (fun i p hi hp=>by
      rw [zy45 fun e=>hi e.symm] at hp;exact r.other i p hi hp)
     exact fin this rfl rfl
 . have e1:GM.zij two g={g with al:=n+1}:=by unfold GM.zij;rw [hal]
   have hpal:(pathOf s.clock g).zcj=s.clock+(n+2:Nat):=by
    show (if g.al=0 then (0:Int) else s.clock+(g.al:Int))=_;rw [zy0 (by omega),hal]
   rw [e1,zkg (s:={s with clock:=s.clock+1}) hpath (.inr (by rw [hpal];show s.clock+1<_;omega))];refine still (n+1) zz0 ?_;unfold pathOf;dsimp only;rw [zy0 (by omega),zy0 (by omega),hal];congr 1;omega
end
end Tp
namespace Tp
open Ser Ln
structure RS where
 T:Nat->Nat
 U:Nat->List (List UInt8)
 lg:List zcs
def RS.step (st:RS) (x:CH):RS:=if x.last then ⟨at1 st.T x.stream (st.T x.stream+1),at1 st.U x.stream [],st.lg++[⟨x.stream,st.T x.stream,true,(st.U x.stream++[x.data]).flatten⟩]⟩ else ⟨st.T,at1 st.U x.stream (st.U x.stream++[x.data]),st.lg⟩
def RS.run (st:RS) (l:List CH):RS:=l.foldl RS.step st
def RS.new (h:Nat):RS:=if h=0 then ⟨fun _=>0,fun _=>[],[]⟩ else ⟨at1 (fun _=>0) 0 1,fun _=>[],[]⟩
def zse (l:List (List UInt8)):Nat:=(l.map List.length).sum
def ybn (S:Nat):RS->List CH->Prop
 | _,[]=>True
 | st,x::r=>x.stream<S/\x.mid=st.T x.stream/\x.part=(st.U x.stream).length/\st.T x.stream<1000/\zse (st.U x.stream)+x.data.length<=60/\ybn S (st.step x) r
theorem yrn {S:Nat}:∀ {l:List CH} {st:RS} {i:Nat} {x:CH},ybn S st l->l[i]?=some x->x.stream<S/\x.mid=(st.run (l.take i)).T x.stream/\x.part=((st.run (l.take i)).U x.stream).length/\(st.run (l.take i)).T x.stream<1000/\zse ((st.run (l.take i)).U x.stream)+x.data.length<=60
 | [],_,_,_,_,h=>by cases h
 | y::l,st,0,x,h,hx=>by
  have:y=x:=by simpa using hx
  subst this;exact ⟨h.1,h.2.1,h.2.2.1,h.2.2.2.1,h.2.2.2.2.1⟩
 | y::l,st,i+1,x,h,hx=>by
  have:=yrn (i:=i) h.2.2.2.2.2 zz46;rw [zy110];exact this
theorem yfc {S:Nat}:∀ {l:List CH} {st:RS},ybn S st l->(∀ k,zse (st.U k)<=60)->∀ k,zse ((st.run l).U k)<=60
 | [],_,_,h,k=>h k
 | x::l,st,h,h0,k=>by
  refine yfc (l:=l) (st:=st.step x) h.2.2.2.2.2 (fun j=>?_) k;have h5:=h.2.2.2.2.1;unfold RS.step;split
  . show zse (at1 st.U x.stream [] j)<=60
    unfold at1;split
    . decide
    . exact h0 j
  . show zse (at1 st.U x.stream (st.U x.stream++[x.data]) j)<=60
    unfold at1;split
    . unfold zse at h5 ⊢
      rw [zy36,List.sum_append]
      simpa using h5
    . exact h0 j
theorem ycv {S:Nat}:∀ {l:List CH} {st:RS} (i:Nat),ybn S st l->ybn S st (l.take i)
 | _,_,0,_=>trivial
 | [],_,_+1,h=>h
 | _::_,_,i+1,h=>⟨h.1,h.2.1,h.2.2.1,h.2.2.2.1,h.2.2.2.2.1,ycv i h.2.2.2.2.2⟩
structure RR (h S:Nat) (f:Int) (Cs:List CH) (R:Nat) (r:Receiver):Prop where
 cum:r.cum=f-1+R
 le:R<=Cs.length
 ri:(R=0/\0<h/\RI S (fun _=>0) (fun _=>[]) [] r)\/(h<=R/\RI S ((RS.new h).run ((Cs.drop h).take (R-h))).T ((RS.new h).run ((Cs.drop h).take (R-h))).U ((RS.new h).run ((Cs.drop h).take (R-h))).lg r)
structure yvy (h S:Nat) (f:Int) (Cs:List CH):Prop where
 few:Cs.length<=1000
 zed:∀ x∈Cs,x.xbk
 f0:0<=f
 f1:f<65536
 ybn:ybn S (RS.new h) (Cs.drop h)
 hS:h=0\/S=1
 S12:S=1\/S=2
 hl:h<=Cs.length
section
variable {h S:Nat} {f:Int} {Cs:List CH} {R:Nat} {r:Receiver}
theorem RR.old (hc:yvy h S f Cs) (hr:RR h S f Cs R r) {i:Nat} {x:CH} (hi:i<R):Rcv.data r (x.mk' f i)=r:=by
 refine ywp r _ ?_;have h1:=hc.few;have h2:=hc.f0;have h3:=hc.f1;have h4:=hr.le;have h5:=hr.cum;have:zdf r.cum (x.mk' f i).tag=f+i:=Rcv.zlp zz0 zz0 zz0 zz0 zz58;rw [this];omega
theorem RR.data (hc:yvy h S f Cs) (hr:RR h S f Cs R r) {x:CH} (hx:Cs[R]?=some x) (hh:h<=R):RR h S f Cs (R+1) (Rcv.data r (x.mk' f R)):=by
 have h1:=hc.few;have h2:=hc.f0;have h3:=hc.f1;have h4:=hr.le;have h5:=hr.cum;have h6:=Gh.zgd hx;have hri:=hr.ri;rcases hri with ⟨e1,e2,-⟩ | ⟨-,hri⟩
 . omega
 have hn:zdf r.cum (x.mk' f R).tag=r.cum+1:=Rcv.zlp zz0 zz0 zz0 zz0 zz58;have hxd:(Cs.drop h)[R-h]?=some x:=by rw [zy44,show h+(R-h)=R by omega];exact hx
 obtain ⟨g1,g2,g3,g4,g5⟩:=yrn hc.ybn hxd;have htake:(Cs.drop h).take (R+1-h)=(Cs.drop h).take (R-h)++[x]:=by
  rw [show R+1-h=R-h+1 by omega,List.take_add_one,hxd];rfl
 have zeb:(RS.new h).run ((Cs.drop h).take (R+1-h))=((RS.new h).run ((Cs.drop h).take (R-h))).step x:=by
  rw [htake];unfold RS.run;rw [zy77];rfl
 generalize (RS.new h).run ((Cs.drop h).take (R-h))=st at hri g2 g3 g4 g5 zeb;obtain ⟨d1,d2,d3⟩:=yqr hri (c:=x.mk' f R) (k:=x.stream) g1 rfl rfl (by show ((x.mid:Nat):Int)=_;rw [g2]) (by show ((x.part:Nat):Int)=_;rw [g3]) rfl hn g4;refine ⟨by rw [d1,h5];push_cast;omega,h6,.inr ⟨by omega,?_⟩⟩;rw [zeb];unfold RS.step;have hl:(x.mk' f R).last=x.last:=rfl;rw [hl] at d3;cases hb:x.last with
 | true=>rw [hb] at d3;exact d3
 | false=>rw [hb] at d3;exact d3
theorem RR.fold (hr:RR h S f Cs R r) {n:Nat} (hn:n<=R) (hc:yvy h S f Cs):Rcv.forward r (zub f n)=r:=by
 refine xcz r _ ?_;have h1:=hc.few;have h2:=hc.f0;have h3:=hc.f1;have h4:=hr.le;have h5:=hr.cum;have:zdf r.cum (zub f n).tag=f-1+n:=Rcv.zlp zz0 zz0 zz0 zz0 zz58;rw [this];omega
theorem RR.skip (hr:RR h S f Cs 0 r) (hc:yvy h S f Cs) (hh:0<h):RR h S f Cs h (Rcv.forward r (zub f h)):=by
 have h1:=hc.few;have h2:=hc.f0;have h3:=hc.f1;have h4:=hc.hl;have h5:=hr.cum;have hS:S=1:=hc.hS.resolve_left zz0;have hri:RI S (fun _=>0) (fun _=>[]) [] r:=by
  rcases hr.ri with ⟨-,-,e⟩ | ⟨e,-⟩
  . exact e
  . omega
 rw [hS] at hri;have hn:zdf r.cum (zub f h).tag=f-1+h:=Rcv.zlp zz0 zz0 zz0 zz0 zz58;obtain ⟨d1,d2,d3⟩:=yxb hri rfl rfl (c:=zub f h) rfl rfl hn zz0;refine ⟨by rw [d1],h4,.inr ⟨zy22 _,?_⟩⟩;rw [zy98,List.take_zero];show RI S (RS.new h).T (RS.new h).U (RS.new h).lg _;unfold RS.new;rw [zy0 (by omega),hS];exact d3
theorem RR.zmv (hr:RR h S f Cs R r) (hc:yvy h S f Cs):∃ n:Int,Rcv.zmv r=⟨2,tag (f-1+R),0,0,0,false,false,[],[],n,[]⟩/\280<=n/\n<=400:=by
 have hq:∀ {T U lg},RI S T U lg r->(∀ k,zse (U k)<=60)->r.zau=[]/\(Jn.tot r.pieces:Int)<=120:=by
  intro T U lg hri hu;refine ⟨hri.zau,?_⟩;have h0:=hu 0;have h1:=hu 1;unfold zse at h0 h1;rcases hc.S12 with e | e
  . subst e
    have:=hri.held1;omega
  . subst e
    have:=hri.held2;omega
 have hb:r.zau=[]/\(Jn.tot r.pieces:Int)<=120:=by
  rcases hr.ri with ⟨-,-,e⟩ | ⟨-,e⟩
  . exact hq e fun _=>by show (0:Nat)<=60;omega
  . refine hq e (yfc (S:=S) (ycv _ hc.ybn) fun k=>?_)
    unfold RS.new;split<;>(show (0:Nat)<=60;omega)
 refine ⟨400-Jn.tot r.pieces,?_,by omega,by omega⟩;unfold Rcv.zmv;rw [hb.1,zy0 (by omega),hr.cum];rfl
theorem yul {n t:Int} (h1:0<=n) (h2:n<=400):Pck.zde [⟨2,tag t,0,0,0,false,false,[],[],n,[]⟩] 120=(Pck.zbf [⟨2,tag t,0,0,0,false,false,[],[],n,[]⟩],0)/\Pck.zgq (Pck.zbf [⟨2,tag t,0,0,0,false,false,[],[],n,[]⟩])=([⟨2,tag t,0,0,0,false,false,[],[],n,[]⟩],0):=by
 have ht:=yge t;have hw:Chk.zda ⟨2,tag t,0,0,0,false,false,[],[],n,[]⟩=0:=by
  unfold Chk.zda;dsimp only;rw [zy0 (by decide),zy0 (by omega),zy0 (by decide),zy1 rfl,zy0 (by omega),zy0 (by decide)];rfl
 have hl:(Pck.zbf [⟨2,tag t,0,0,0,false,false,[],[],n,[]⟩]).length=6:=by
  unfold Pck.zbf;rw [zy130,List.flatMap_nil,zy8];unfold Chk.bytes;rw [zy1 hw];unfold Chk.body;dsimp only;rw [zy0 (by decide),zy1 rfl];simp [ztu,Chk.zcl]
 have hf:Pck.zcb [⟨2,tag t,0,0,0,false,false,[],[],n,[]⟩]=0:=by
  unfold Pck.zcb;rw [zy0 (fun hc=>hc hw)];rfl
 refine ⟨?_,?_⟩
 . unfold Pck.zde
   rw [zy0 (by simp),zy0 (fun hc=>hc hf),zy0 (by rw [hl];decide)]
 . unfold Pck.zgq
   rw [zy0 (by rw [hl];decide),Pck.zls (zy22 _) hf];rfl
end
end Tp
namespace Tp
open Ser Ln
structure LR (E:List Int) (N h S:Nat) (f T:Int) (P:Nat) (Cs:List CH) (l:zdq) (g:GM):Prop where
 si:Snd.SI N l.sender
 few:N<=500
 sr:SR E f T P Cs l.sender g
 cs:yvy h S f Cs
 rr:RR h S f Cs g.R l.receiver
 way:zyl (xhx f Cs g.act) l.way g.way
 codes:∀ m,GP.data m∈g.way->m≠[]/\∀ c∈m,c % 2=0->c / 2<g.a+g.out.length/\∃ x,Cs[c / 2]?=some x
 Rle:g.R<=g.a+g.out.length
 hle:h<=g.a+g.out.length
 alen:g.a+g.out.length<=Cs.length
section
variable {E:List Int} {N h S:Nat} {f T:Int} {P:Nat} {Cs:List CH} {l:zdq} {g:GM}
theorem yah:∀ (l:List (Nat×Nat)) (z:Nat) (cur:List Nat) (m:List Nat),GP.data m∈GM.pack z cur l->(∀ y∈l,y.2<=60)->(cur=[]->z=0)->m≠[]/\∀ c∈m,c∈cur\/∃ y∈l,y.1=c
 | [],z,cur,m,h,_,_=>by
  cases cur with
  | nil=>cases h
  | cons a cur =>
   have h:GP.data m∈[GP.data (a::cur)]:=h;rw [zy23] at h;cases h;exact ⟨by simp,fun c hc=>.inl hc⟩
 | x::l,z,cur,m,h,hy,h0=>by
  have h:GP.data m∈(bif Nat.ble (Nat.add z x.2) 60 then GM.pack (z+x.2) (cur++[x.1]) l else .data cur::GM.pack x.2 [x.1] l):=h;have hl:∀ y∈l,y.2<=60:=fun y hy2=>hy y (by simp [hy2])
  cases hb:Nat.ble (Nat.add z x.2) 60 with
  | true =>
   rw [hb] at h;obtain ⟨h1,h2⟩:=yah l _ _ m h hl (fun e=>absurd e zz4);refine ⟨h1,fun c hc=>?_⟩;rcases h2 c hc with h3 | ⟨y,h3,h4⟩
   . rcases zy17.1 h3 with h3 | h3
     . exact .inl h3
     . rw [zy23] at h3;exact .inr ⟨x,by simp,h3.symm⟩
   . exact .inr ⟨y,by simp [h3],h4⟩
  | false =>
   rw [hb] at h;rcases zy18.1 h with h | h
   . cases h
     refine ⟨fun e=>?_,fun c hc=>.inl hc⟩;have:Nat.ble (Nat.add z x.2) 60=true:=by rw [h0 e];exact zy63 (by have:=hy x (by simp);show 0+x.2<=60;omega)
     rw [hb] at this;cases this
   . obtain ⟨h1,h2⟩:=yah l _ _ m h hl (fun e=>absurd e zz4)
     refine ⟨h1,fun c hc=>?_⟩;rcases h2 c hc with h3 | ⟨y,h3,h4⟩
     . rw [zy23] at h3;exact .inr ⟨x,by simp,h3.symm⟩
     . exact .inr ⟨y,by simp [h3],h4⟩
theorem yal:∀ (ps w:List zbb),w.length+ps.length<=40->zqo w ps=w++ps
 | [],w,_=>(zy8 w).symm
 | p::ps,w,h=>by
  rw [zy5] at h;unfold zqo;rw [zy39];have:xbc w p=w++[p]:=by unfold xbc;rw [zy1 (by omega)]
  rw [this];have ih:=yal ps (w++[p]) (by rw [zy6,zy57];omega);unfold zqo at ih;rw [ih,zy33];rfl
theorem zos (g:GM):(GM.zfl g).way=g.way++GM.pack 0 [] (GM.emG g):=by
 show (GM.zib g).1.way++_=_;unfold GM.zib;cases g.fwd&&!Nat.beq (GM.lead g.out) 0<;>rfl
theorem xbb (g:GM):(GM.zfl g).R=g.R:=by
 show (GM.zib g).1.R=_;unfold GM.zib;cases g.fwd&&!Nat.beq (GM.lead g.out) 0<;>rfl
theorem yyx (g:GM):(GM.zfl g).act=g.act:=by
 show (GM.zib g).1.act=_;unfold GM.zib;cases g.fwd&&!Nat.beq (GM.lead g.out) 0<;>rfl
theorem zob (win:Nat):∀ (l:List (Nat×Nat)) (i f:Nat),(GM.again win i f l).1.length=l.length
 | [],_,_=>rfl
 | x::l,i,f=>by
  rw [GM.zwj];split
  . show _+1=_;rw [zob win l];rfl
  . show _+1=_;rw [zob win l];rfl
theorem ytz (g:GM):g.a+g.out.length<=(GM.zfl g).a+(GM.zfl g).out.length:=by
 have ha:(GM.zfl g).a=g.a:=by
  show (GM.zib g).1.a=_;unfold GM.zib;cases g.fwd&&!Nat.beq (GM.lead g.out) 0<;>rfl
 have ho:(GM.zib g).1.out=g.out:=by
  unfold GM.zib;cases g.fwd&&!Nat.beq (GM.lead g.out) 0<;>rfl
 rw [ha];show _<=g.a+((GM.again (GM.zib g).1.win (GM.zib g).1.a (GM.zak (GM.zib g).1.out) (GM.zib g).1.out).1++_).length;rw [zy6,zob,ho];omega
theorem yyz (g:GM):(GM.zfl g).a+(GM.zfl g).out.length<=g.a+g.out.length+g.todo.length:=by
 have ha:(GM.zfl g).a=g.a:=by
  show (GM.zib g).1.a=_;unfold GM.zib;cases g.fwd&&!Nat.beq (GM.lead g.out) 0<;>rfl
 have ho:(GM.zib g).1.out=g.out/\(GM.zib g).1.todo=g.todo:=by
  unfold GM.zib;cases g.fwd&&!Nat.beq (GM.lead g.out) 0<;>exact ⟨rfl,rfl⟩
 rw [ha];show g.a+((GM.again (GM.zib g).1.win (GM.zib g).1.a (GM.zak (GM.zib g).1.out) (GM.zib g).1.out).1++((GM.zib g).1.todo.take (GM.yjr (GM.zho (GM.zib g).1).1).1).map _).length<=_;rw [zy6,zob,zy2,zy52,ho.1,ho.2];omega
theorem xcl (r:LR E N h S f T P Cs l g) (hT:l.sender.clock<=T) (hok:(GM.zfl g).ok=true):LR E N h S f T P Cs (emit l) (GM.zfl g):=by
 obtain ⟨si,few,sr,cs,rr,way,codes,Rle,hle,alen⟩:=r;obtain ⟨p1,p2,p3⟩:=yza si sr hT hok;obtain ⟨o1,o2,o3⟩:=GM.yio hok;have hh:=ytz g;have hwl:l.way.length+(Snd.zfl l.sender).2.length<=40:=by
  rw [zos,zy6] at o3;rw [way.len,p2.len];exact o3
 refine ⟨Snd.yub si,few,p1,cs,by rw [xbb];exact rr,?_,fun m hm=>?_,by rw [xbb];omega,by omega,?_⟩
 case refine_3 =>
  have h1:=yyz g;have h2:=congrArg List.length sr.todo;rw [zy2,zy34] at h2;omega
 . rw [zos,yyx]
   show zyl _ (zqo l.way (Snd.zfl l.sender).2) _;rw [yal _ _ hwl];exact way.app p2
 . rw [zos] at hm
   rcases zy17.1 hm with hm | hm
   . obtain ⟨c1,c2⟩:=codes m hm
     refine ⟨c1,fun c hc h2=>?_⟩;obtain ⟨c3,c4⟩:=c2 c hc h2;exact ⟨by omega,c4⟩
   . obtain ⟨c1,c2⟩:=yah _ 0 [] m hm (fun y hy=>by have:=(zll (f:=f) (p3 y hy).1).2.2.2;omega) fun _=>rfl
     refine ⟨c1,fun c hc h2=>?_⟩;rcases c2 c hc with h3 | ⟨y,y1,y2⟩
     . cases h3
     . subst y2
       obtain ⟨q1,q2⟩:=p3 y y1;refine ⟨q2 h2,?_⟩;rcases q1 with ⟨q1,-⟩ | ⟨-,x,q3,-⟩
       . omega
       . exact ⟨x,q3⟩
theorem zis:∀ (m:List Nat) (x:Nat×Bool),(GM.items h m x).2=true->x.2=true
 | [],_,e=>e
 | c::m,x,e=>by
  have e:(bif Nat.beq (Nat.mod c 2) 1 then (bif Nat.ble (Nat.div c 2) x.1 then GM.items h m x else GM.items h m (Nat.div c 2,x.2&&(Nat.beq x.1 0&&Nat.beq (Nat.div c 2) h))) else (bif Nat.beq (Nat.div c 2) x.1 then GM.items h m (Nat.succ x.1,x.2&&Nat.ble h x.1) else GM.items h m (x.1,x.2&&Nat.ble (Nat.div c 2) x.1))).2=true:=e;cases h1:Nat.beq (Nat.mod c 2) 1 with
  | true =>
   rw [h1] at e;cases h2:Nat.ble (Nat.div c 2) x.1 with
   | true=>rw [h2] at e;exact zis m _ e
   | false=>rw [h2] at e;exact GM.zdv (zis m _ e)
  | false =>
   rw [h1] at e;cases h2:Nat.beq (Nat.div c 2) x.1 with
   | true=>rw [h2] at e;exact GM.zdv (zis m _ e)
   | false=>rw [h2] at e;exact GM.zdv (zis m _ e)
theorem ydr (cs:yvy h S f Cs) {n:Nat}:∀ (m:List Nat) (L:zdq) (b:Bool) (x:Nat×Bool),RR h S f Cs x.1 L.receiver->(∀ c∈m,c % 2=0->c / 2<n/\∃ y,Cs[c / 2]?=some y)->x.1<=n->h<=n->(GM.items h m x).2=true ->
 ∃ r,(m.map (zny f Cs)).foldl (zhc false) (L,b)=({L with receiver:=r},b||!m.isEmpty)/\RR h S f Cs (GM.items h m x).1 r/\(GM.items h m x).1<=n
 | [],L,b,x,hr,_,hn,_,_=>⟨L.receiver,by rw [zy80,List.foldl_nil];simp,hr,hn⟩
 | c::m,L,b,x,hr,hm,hn,hhn,hok=>by
  have hm2:∀ c∈m,c % 2=0->c / 2<n/\∃ y,Cs[c / 2]?=some y:=fun d hd=>hm d (by simp [hd])
  have e0:GM.items h (c::m) x=(bif Nat.beq (Nat.mod c 2) 1 then (bif Nat.ble (Nat.div c 2) x.1 then GM.items h m x else GM.items h m (Nat.div c 2,x.2&&(Nat.beq x.1 0&&Nat.beq (Nat.div c 2) h))) else (bif Nat.beq (Nat.div c 2) x.1 then GM.items h m (Nat.succ x.1,x.2&&Nat.ble h x.1) else GM.items h m (x.1,x.2&&Nat.ble (Nat.div c 2) x.1))):=rfl;rw [zy24,zy39];have fin:∀ (r:Receiver) (x':Nat×Bool),zhc false (L,b) (zny f Cs c)=({L with receiver:=r},true)->GM.items h (c::m) x=GM.items h m x'->RR h S f Cs x'.1 r->x'.1<=n ->
   ∃ r,(m.map (zny f Cs)).foldl (zhc false) (zhc false (L,b) (zny f Cs c))=({L with receiver:=r},b||!(c::m).isEmpty)/\RR h S f Cs (GM.items h (c::m) x).1 r/\(GM.items h (c::m) x).1<=n:=by
   intro r x' h1 h2 h3 h4;rw [h2] at hok ⊢;rw [h1];obtain ⟨r',r1,r2,r3⟩:=ydr cs m {L with receiver:=r} true x' h3 hm2 h4 hhn hok;exact ⟨r',by rw [r1];simp,r2,r3⟩
  have hmod:Nat.mod c 2=c % 2:=rfl;have hdiv:Nat.div c 2=c / 2:=rfl;rw [hmod,hdiv] at e0;by_cases c1:c % 2=1
  . have hch:zny f Cs c=zub f (c / 2):=by unfold zny;rw [zy1 c1]
    rw [GM.zfk c1] at e0;have hh1:zhc false (L,b) (zny f Cs c)=({L with receiver:=Rcv.forward L.receiver (zub f (c / 2))},true):=by rw [hch];rfl
    by_cases c2:c / 2<=x.1
    . rw [show Nat.ble (c / 2) x.1=true from zy63 c2] at e0
      exact fin _ x hh1 e0 (by rw [hr.fold c2 cs];exact hr) hn
    . rw [show Nat.ble (c / 2) x.1=false by cases hb:Nat.ble (c / 2) x.1 with | false=>rfl | true=>exact absurd (zy11 hb) c2] at e0
      have e0:GM.items h (c::m) x=GM.items h m (c / 2,x.2&&(Nat.beq x.1 0&&Nat.beq (c / 2) h)):=e0;have hok2:=hok;rw [e0] at hok2;have o1:=GM.zhp (zis m _ hok2);have o2:x.1=0:=zy4 (GM.zdv o1);have o3:c / 2=h:=zy4 (GM.zhp o1);rw [o2] at hr;exact fin _ _ hh1 e0 (by rw [o3];exact hr.skip cs (by omega)) zz59
  . have c0:c % 2=0:=by omega
    obtain ⟨hcn,y,hy⟩:=hm c zz4 c0;have hch:zny f Cs c=y.mk' f (c / 2):=by unfold zny;rw [zy0 c1,hy]
    rw [GM.zhe c1] at e0;have hh1:zhc false (L,b) (zny f Cs c)=({L with receiver:=Rcv.data L.receiver (y.mk' f (c / 2))},true):=by rw [hch];rfl
    by_cases c2:c / 2=x.1
    . rw [GM.zfk c2] at e0
      have e0:GM.items h (c::m) x=GM.items h m (x.1+1,x.2&&Nat.ble h x.1):=e0;have hok2:=hok;rw [e0] at hok2;have o1:=zy11 (GM.zhp (zis m _ hok2));rw [c2] at hy hcn hh1;exact fin _ _ hh1 e0 (hr.data cs hy o1) hcn
    . rw [GM.zhe c2] at e0
      have e0:GM.items h (c::m) x=GM.items h m (x.1,x.2&&Nat.ble (c / 2) x.1):=e0;have hok2:=hok;rw [e0] at hok2;have o1:=zy11 (GM.zhp (zis m _ hok2));exact fin _ _ hh1 e0 (by rw [hr.old cs (by omega)];exact hr) hn
theorem zki {g:GM} (h:(GM.zfl g).ok=true):g.ok=true:=(GM.yio h).1
theorem xbd {g:GM} {ps:List GP} (h:(GM.xhn g ps).ok=true):g.ok=true/\g.way.length+ps.length<=40:=⟨GM.zdv h,zy11 (GM.zhp h)⟩
theorem ydd (g:GM) (c:Nat):(GM.zkc g c).R=g.R/\(GM.zkc g c).way=g.way/\(GM.zkc g c).act=g.act/\(GM.zkc g c).a=c/\(GM.zkc g c).out=g.out.drop (c-g.a):=by
 obtain ⟨-,q2,q3,-,-,q6,q7,q8,-⟩:=zsz (GM.zwi g c) (GM.bytes (g.out.take (c-g.a)));exact ⟨q7,q8,q6,q3,q2⟩
theorem SR.other' {s:zab} (r:SR E f T P Cs s g) (R:Nat) (w:List GP) (o:Bool):SR E f T P Cs s {g with R:=R,way:=w,ok:=o}:=by
 obtain ⟨a1,a2,a3,a4,a5,a6,a7,a8,a9,a10,a11,a12,a13,a14,a15,a16,a17,a18,a19,a20,a21⟩:=r;exact ⟨a1,a2,a3,a4,a5,a6,a7,a8,a9,a10,a11,a12,a13,a14,a15,a16,a17,a18,a19,⟨a20.win,a20.slow,a20.par,a20.wait,a20.wait1,a20.errs,a20.al⟩,a21⟩
theorem xcc (r:LR E N h S f T P Cs l g) (hw:g.way≠[]) (hok:(GM.zfw h g).ok=true):∃ l1 g1,(doS l (stp 2)).1=emit l1/\GM.zfw h g=GM.zfl g1/\LR E N h S f T P Cs l1 g1/\(l1.sender=l.sender\/∃ c,l1.sender=Snd.zkc l.sender c):=by
 cases hg:g.way with
 | nil=>exact absurd hg hw
 | cons gp w =>
 have hway:=r.way;have hcod:=r.codes;rw [hg] at hway hcod;cases hl:l.way with
 | nil=>rw [hl] at hway;cases hway
 | cons p v =>
 rw [hl] at hway;cases hway with
 | cons hp ht =>
 have hdo:(doS l (stp 2)).1=emit (Ln.zfw {l with way:=v} p):=by
  unfold doS;rw [zy0 (show ¬ (stp 2).kind=1 by decide),zy1 (.inl rfl),zy0 (show ¬ (stp 2).n<0 by decide)];show (match l.way[0]? with | none=>_ | some p=>_:zdq×Answer).1=_;rw [hl];show (if (2:Int)=4 then _ else (emit (if (2:Int)=2 then Ln.zfw {l with way:=(p::v).eraseIdx 0} p else _),_):zdq×Answer).1=_;rw [zy0 (by decide),zy1 rfl];rfl
 rw [hdo];cases gp with
 | data m =>
  have e0:GM.zfw h g=GM.zfl (GM.xhn {g with R:=(GM.items h m (g.R,g.ok)).1,way:=w,ok:=(GM.items h m (g.R,g.ok)).2} [.zfq (GM.items h m (g.R,g.ok)).1]):=by unfold GM.zfw;rw [hg]
  rw [e0] at hok ⊢;obtain ⟨o1,o2⟩:=xbd (zki hok);obtain ⟨q1,q2,q3⟩:=hp;obtain ⟨c1,c2⟩:=hcod m zz4;obtain ⟨rc,r1,r2,r3⟩:=ydr r.cs m {l with way:=v} false (g.R,g.ok) r.rr c2 r.Rle r.hle o1;have hne:m.isEmpty=false:=by cases m with | nil=>exact absurd rfl c1 | cons _ _=>rfl
  rw [hne] at r1;obtain ⟨n,t1,t2,t3⟩:=r2.zmv r.cs;have hsw:=yul (n:=n) (t:=f-1+((GM.items h m (g.R,g.ok)).1:Nat)) zz0 t3;have hcome:Ln.zfw {l with way:=v} p={sender:=l.sender,receiver:=rc,way:=v++[⟨p.path,true,Pck.zbf [⟨2,tag (f-1+((GM.items h m (g.R,g.ok)).1:Nat)),0,0,0,false,false,[],[],n,[]⟩]⟩]}:=by
   unfold Ln.zfw zio;rw [q3];rw [zy0 (fun hc=>hc rfl),q1,r1];show (if (false||!false)=true then told p.path {l with way:=v,receiver:=rc} else _)=_;rw [zy1 (show (false||!false)=true from rfl)];unfold told;rw [t1,hsw.1,zy1 rfl];show ({l with receiver:=rc,way:=zqo v [_]}:zdq)=_;rw [yal _ _ (by rw [ht.len];exact o2)]
  rw [hcome];refine ⟨_,_,rfl,rfl,⟨r.si,r.few,r.sr.other' _ _ _,r.cs,r2,?_,fun m' hm'=>?_,r3,r.hle,r.alen⟩,.inl rfl⟩
  . show zyl _ (v++[_]) (w++[_])
    exact ht.app (.cons ⟨rfl,q2,_,hsw.2,rfl,rfl,rfl,t2⟩ .nil)
  . have hm':GP.data m'∈w++[GP.zfq _]:=hm'
    rcases zy17.1 hm' with hm' | hm'
    . exact hcod m' (by simp [hm'])
    . rw [zy23] at hm';cases hm'
 | zfq c =>
  have e0:GM.zfw h g=GM.zfl (GM.zkc {g with way:=w} c):=by unfold GM.zfw;rw [hg]
  rw [e0] at hok ⊢;have o1:=zki hok;obtain ⟨h1,h2,h3,h4,h5,h6⟩:=yho o1;obtain ⟨s1,s2,s3,s4,s5⟩:=ydd {g with way:=w} c;obtain ⟨q1,q2,ch,q3,q4,q5,q6,q7⟩:=hp;have hcome:Ln.zfw {l with way:=v} p={sender:=Snd.zkc l.sender ch,receiver:=l.receiver,way:=v}:=by
   unfold Ln.zfw zio;rw [q3,q1];rfl
  rw [hcome];have hsr:=yxg r.si r.few (r.sr.other' g.R w g.ok) q4 q5 q6 q7 o1;have hsum:(GM.zkc {g with way:=w} c).a+(GM.zkc {g with way:=w} c).out.length=g.a+g.out.length:=by
   rw [s4,s5,zy34];dsimp only at h2 h3 ⊢;omega
  refine ⟨_,_,rfl,rfl,⟨Snd.yrt r.si ch,r.few,hsr,r.cs,by rw [s1];exact r.rr,by rw [s2,s3];exact ht,fun m' hm'=>?_,by rw [hsum,s1];exact r.Rle,by rw [hsum];exact r.hle,by rw [hsum];exact r.alen⟩,.inr ⟨ch,rfl⟩⟩;rw [s2] at hm';obtain ⟨d1,d2⟩:=hcod m' (zy136 _ hm');rw [hsum];exact ⟨d1,d2⟩
theorem ypu (two:Bool) (g:GM):(GM.zij two g).R=g.R/\(GM.zij two g).way=g.way/\(GM.zij two g).a=g.a/\(GM.zij two g).out.length=g.out.length/\((GM.zij two g).act=g.act\/two=true):=by
 unfold GM.zij;split
 . exact ⟨rfl,rfl,rfl,rfl,.inl rfl⟩
 . cases hc:two&&Nat.beq g.act 0&&Nat.ble 3 g.errs with
   | true=>exact ⟨rfl,rfl,rfl,by show (GM.zhw g.out).length=_;unfold GM.zhw;rw [zy2],.inr (GM.zdv (GM.zdv hc))⟩
   | false=>exact ⟨rfl,rfl,rfl,by show (GM.zhw g.out).length=_;unfold GM.zhw;rw [zy2],.inl rfl⟩
 . exact ⟨rfl,rfl,rfl,rfl,.inl rfl⟩
theorem xeu (r:LR E N h S f T P Cs l g) {two:Bool} (htwo:two=decide (P=2)) (hc:l.sender.clock+1<=100000) (hw:two=true->g.way=[]) (o1:(GM.zij two g).ok=true):∃ l1,(doS l (stp 5)).1=emit l1/\LR E N h S f T P Cs l1 (GM.zij two g)/\l1.sender=Snd.tick l.sender:=by
 have hdo:(doS l (stp 5)).1=emit {l with sender:=Snd.tick l.sender}:=by
  unfold doS;rw [zy0 (show ¬ (stp 5).kind=1 by decide),zy0 (show ¬ ((stp 5).kind=2\/(stp 5).kind=3\/(stp 5).kind=4) by decide),zy1 (show (stp 5).kind=5 from rfl)]
 rw [hdo];obtain ⟨s1,s2,s3,s4,s5⟩:=ypu two g;refine ⟨_,rfl,⟨Snd.ybh r.si,r.few,yzs r.si r.sr hc htwo o1,r.cs,by rw [s1];exact r.rr,?_,fun m' hm'=>?_,by rw [s1,s3,s4];exact r.Rle,by rw [s3,s4];exact r.hle,by rw [s3,s4];exact r.alen⟩,rfl⟩
 . show zyl _ l.way _
   rw [s2];rcases s5 with s5 | s5
   . rw [s5];exact r.way
   . have hwl:=r.way
     have e:=hw s5;rw [e] at hwl ⊢;cases hlw:l.way with
     | nil=>exact .nil
     | cons p v=>rw [hlw] at hwl;cases hwl
 . rw [s2] at hm'
   rw [s3,s4];exact r.codes m' hm'
theorem ywl {g:GM} (hok:(GM.zfw h g).ok=true):g.ok=true:=by
 unfold GM.zfw at hok;split at hok
 . exact hok
 . exact zis _ _ (xbd (zki hok)).1
 . exact (yho (zki hok)).1
theorem ztp:∀ (n:Nat) {g:GM},(GM.comes h n g).ok=true->g.ok=true
 | 0,_,hok=>hok
 | n+1,g,hok=>ywl (ztp n (g:=GM.zfw h g) hok)
theorem ynb {two:Bool} {g:GM} (hok:(GM.tick two g).ok=true):g.ok=true:=xew (zki hok)
theorem yui {g:GM} (hok:(GM.round h g).ok=true):g.ok=true:=ztp _ (ynb hok)
theorem zqs:∀ (n:Nat) {g:GM},(GM.settle h n g).ok=true->g.ok=true
 | 0,_,hok=>hok
 | n+1,g,hok=>by
  have hok:(bif GM.busy g then GM.settle h n (GM.round h g) else g).ok=true:=hok;cases hb:GM.busy g with
  | true=>rw [hb] at hok;exact yui (zqs n hok)
  | false=>rw [hb] at hok;exact hok
end
end Tp
namespace Tp
open Ser Snd Ln
def Has (s:zab) (id:Nat):Prop:=(∃ m∈s.queue,m.id=(id:Int))\/∃ x∈s.out,x.id=(id:Int)
structure Kp (s t:zab):Prop where
 cfg:t.config=s.config
 clock:t.clock=s.clock
 fates:t.fates=s.fates
 ids:∀ id,Has s id->Has t id
theorem Kp.rfl' (s:zab):Kp s s:=⟨rfl,rfl,rfl,fun _ h=>h⟩
theorem Kp.trans {s t u:zab} (h:Kp s t) (k:Kp t u):Kp s u:=⟨k.cfg.trans h.cfg,k.clock.trans h.clock,k.fates.trans h.fates,fun id hi=>k.ids id (h.ids id hi)⟩
theorem xam (p:zgj) (i path:Nat):Kp p.s (fly p i path).s:=by
 unfold fly;split
 . exact Kp.rfl' _
 . rename_i x hx
   refine ⟨rfl,rfl,rfl,fun id h=>h.imp (fun h=>h) fun ⟨y,y1,y2⟩=>?_⟩;obtain ⟨j,hj⟩:=zy61 y1;by_cases e:i=j
   . subst e
     rw [hx] at hj;cases hj;exact ⟨zvx x path,zy12 (i:=i) (by show (p.s.out.set i (zvx x path))[i]?=_;rw [zy27 (Gh.zgd hx)]),y2⟩
   . exact ⟨y,zy12 (i:=j) (by show (p.s.out.set i (zvx x path))[j]?=_;rw [zy45 e];exact hj),y2⟩
theorem yqh (path:Nat) (p:zgj) (i:Nat):Kp p.s (zdn path p i).s:=by
 unfold zdn;split
 . exact Kp.rfl' _
 . split
   . exact xam _ _ _
   . exact Kp.rfl' _
theorem ybt (path:Nat):∀ (l:List Nat) (p:zgj),Kp p.s (l.foldl (zdn path) p).s
 | [],p=>Kp.rfl' _
 | i::l,p=>by rw [zy39];exact (yqh path p i).trans (ybt path l _)
theorem xdr {p q:zgj} (h:next p=some q):Kp p.s q.s:=by
 obtain ⟨s,o⟩:=p;unfold next at h;dsimp only at h;split at h
 . cases h
 cases hm:s.queue[(zdi s).toNat]? with
 | none=>rw [hm] at h;cases h
 | some m =>
  rw [hm] at h;dsimp only at h;split at h
  . cases h
  . cases h
    rw [zlq];refine Kp.trans ?_ (xam _ _ _);refine ⟨rfl,rfl,rfl,fun id hi=>?_⟩;rcases hi with ⟨y,y1,y2⟩ | ⟨y,y1,y2⟩
    . obtain ⟨j,hj⟩:=zy61 y1
      by_cases e:(zdi s).toNat=j
      . rw [e] at hm
        rw [hm] at hj;cases hj;exact .inr ⟨⟨s.next,m.id,0,0,0,0,m.came,m.message.life,m.message.tries,cut s m (many s m)⟩,zy161 _ zz4,y2⟩
      . refine .inl ⟨y,?_,y2⟩
        show y∈(if decide (m.sent+many s m=m.message.data.length) then s.queue.eraseIdx (zdi s).toNat else s.queue.set (zdi s).toNat {m with mid:=zcd s m,sent:=m.sent+many s m,parts:=W (m.parts+1)});split
        . exact List.mem_eraseIdx_iff_getElem?.2 ⟨j,fun h=>e h.symm,hj⟩
        . exact zy12 (i:=j) (by rw [zy45 e];exact hj)
    . exact .inr ⟨y,List.mem_append_left _ y1,y2⟩
theorem ylv:∀ (n:Nat) (p:zgj),Kp p.s (zgl n p).s
 | 0,p=>Kp.rfl' _
 | n+1,p=>by
  unfold zgl;split
  . exact Kp.rfl' _
  . rename_i q hq;exact (xdr hq).trans (ylv n q)
theorem yns (p:zgj):Kp p.s (forward p).s:=by unfold forward;split<;>exact ⟨rfl,rfl,rfl,fun _ h=>h⟩
theorem yua {s:zab} (h:expire s=s):Kp s (zfl s).1:=by
 refine Kp.trans (t:=(zhy s).s) ?_ ⟨rfl,rfl,rfl,fun _ h=>h⟩;unfold zhy;rw [h];refine Kp.trans ?_ (ylv _ _);unfold again;exact (yns ⟨s,List.replicate s.paths.length []⟩).trans (ybt _ _ _)
structure FX (c:Config) (n d:Nat) (s:zab):Prop where
 cfg:s.config=c
 len:s.fates.length=n
 ft:∀ f∈s.fates,1<=f/\f<=3
 gone:∀ id:Nat,s.fates[id]?=some 3->id<d
 three:∀ id:Nat,id<d->s.fates[id]?=some 3
 has:∀ id:Nat,s.fates[id]?=some 1->Has s id
section
variable {c:Config} {n d:Nat} {s:zab}
theorem FX.keep {t:zab} (h:FX c n d s) (k:Kp s t):FX c n d t:=⟨k.cfg.trans h.cfg,by rw [k.fates];exact h.len,by rw [k.fates];exact h.ft,by rw [k.fates];exact h.gone,by rw [k.fates];exact h.three,fun id hi=>k.ids id (h.has id (by rw [<- k.fates];exact hi))⟩
theorem yny (s:zab) (c:Chunk):(zkc s c).clock=s.clock:=by
 unfold zkc;split
 . rfl
 split
 . rfl
 rw [zkd];show (zen _ _).clock=_;have h2:∀ b u,(zen b u).clock=u.clock:=fun b u=>by unfold zen;split<;>rfl
 have h3:∀ p t L,(zhq p t L).clock=t.clock:=fun p t L=>by
  unfold zhq;split
  . rfl
  . split<;>rfl
 rw [h2,h3];rfl
theorem yfl (s:zab) (id:Nat) {f:Int} (h:1<=f/\f<=3):1<=settled s id f/\settled s id f<=3:=by
 unfold settled
 repeat' split
 all_goals omega
theorem yav {s:zab} {id:Nat} {f:Int} (h:settled s id f=3):f=3:=by
 unfold settled at h;split at h
 . cases h
 . exact h
theorem yow {s:zab} {id:Nat} {f:Int} (h:settled s id f=1):Has s id:=by
 unfold settled at h;split at h
 . cases h
 . rename_i c
   subst h;apply Classical.byContradiction;intro hn;refine c ⟨rfl,?_,?_⟩
   . rw [zy120]
     intro m hm e;exact hn (.inl ⟨m,hm,zy43 e⟩)
   . rw [zy120]
     intro x hx e;exact hn (.inr ⟨x,hx,zy43 (GM.zdv e)⟩)
theorem xdc (h:FX c n d s) (ch:Chunk):FX c n d (zkc s ch):=by
 have hcfg:=yxf s ch;unfold zkc at hcfg ⊢;split
 . exact h
 split
 . exact h
 rename_i c1 c2;rw [zy0 c1,zy0 c2] at hcfg;rw [zkd] at hcfg ⊢;generalize hu:zen (decide ((Sco.zfq s.out s.cum ch s.paths.length).2.1>s.cum)) (zhq s.config.part (zgo s ch (Sco.zfq s.out s.cum ch s.paths.length)) (Sco.zfq s.out s.cum ch s.paths.length).2.2.2)=u;have huf:u.fates=s.fates:=by
  rw [<- hu];have hT:∀ p l,(zhq p (zgo s ch (Sco.zfq s.out s.cum ch s.paths.length)) l).fates=s.fates:=fun p l=>by
   unfold zhq;split
   . rfl
   . split<;>rfl
  have hV:∀ b u,(zen b u).fates=u.fates:=fun b u=>by unfold zen;split<;>rfl
  rw [hV,hT]
 have hf:(Snd.settle u).fates=s.fates.mapIdx fun id f=>settled u id f:=by rw [<- huf];rfl
 rw [hu] at hcfg;refine ⟨hcfg.trans h.cfg,by rw [hf,zy94];exact h.len,fun f hm=>?_,fun id hi=>?_,fun id hi=>?_,fun id hi=>?_⟩
 case refine_3 =>
  have h3:=h.three id hi;rw [hf,zy48,h3];show some (settled u id 3)=some 3;rw [settled,zy0 (by rintro ⟨e,-⟩;cases e)]
 . rw [hf] at hm
   obtain ⟨i,hi⟩:=zy61 hm;rw [zy48] at hi;cases hg:s.fates[i]? with
   | none=>rw [hg] at hi;cases hi
   | some g=>rw [hg] at hi;cases hi;exact yfl _ _ (h.ft g (zy12 hg))
 . rw [hf,zy48] at hi
   cases hg:s.fates[id]? with
   | none=>rw [hg] at hi;cases hi
   | some g =>
    rw [hg] at hi;have hi:settled u id g=3:=by simpa using hi
    rw [yav hi] at hg;exact h.gone id hg
 . rw [hf,zy48] at hi
   cases hg:s.fates[id]? with
   | none=>rw [hg] at hi;cases hi
   | some g =>
    rw [hg] at hi;have hi:settled u id g=1:=by simpa using hi
    have:=yow hi;exact this
theorem ysq (part:Int) (s:zab) (i:Nat):(zem part s i).config=s.config/\(zem part s i).clock=s.clock/\(zem part s i).fates=s.fates/\∀ id,Has s id->Has (zem part s i) id:=by
 have e:∀ x,(Sco.late i x).id=x.id:=fun x=>by unfold Sco.late;split<;>rfl
 unfold zem;split
 . exact ⟨rfl,rfl,rfl,fun _ h=>h⟩
 split
 . exact ⟨rfl,rfl,rfl,fun _ h=>h⟩
 dsimp only;split
 . exact ⟨rfl,rfl,rfl,fun id h=>h.imp (fun h=>h) fun ⟨y,y1,y2⟩=>⟨Sco.late i y,zy28.2 ⟨y,y1,rfl⟩,(e y).trans y2⟩⟩
 . exact ⟨rfl,rfl,rfl,fun id h=>h.imp (fun h=>h) fun ⟨y,y1,y2⟩=>⟨Sco.late i y,zy28.2 ⟨y,y1,rfl⟩,(e y).trans y2⟩⟩
theorem zzx (part:Int):∀ (l:List Nat) (s:zab),Kp s (l.foldl (zem part) s)
 | [],s=>Kp.rfl' s
 | i::l,s=>by
  rw [zy39];have:=ysq part s i;exact Kp.trans ⟨this.1,this.2.1,this.2.2.1,this.2.2.2⟩ (zzx part l _)
theorem xet (h:FX c n d s):FX c n d (tick s):=FX.keep (s:={s with clock:=W (s.clock+1)}) ⟨h.cfg,h.len,h.ft,h.gone,h.three,h.has⟩ (zzx _ _ _)
theorem ypv (s:zab):(tick s).clock=W (s.clock+1):=(zzx _ _ {s with clock:=W (s.clock+1)}).clock
theorem xem (h:FX c n d s) (m:Message):FX c (n+1) d (zii s m):=by
 refine ⟨h.cfg,by show (s.fates++[1]).length=_;rw [zy6,h.len];rfl,fun f hf=>?_,fun id hi=>?_,fun id hi=>?_,fun id hi=>?_⟩
 case refine_3 =>
  have h3:=h.three id hi;show (s.fates++[1])[id]?=some 3;rw [zy35 (Gh.zgd h3)];exact h3
 . rcases zy17.1 (show f∈s.fates++[1] from hf) with hf | hf
   . exact h.ft f hf
   . rw [zy23] at hf;subst hf;decide
 . rcases Gh.ztg (show (s.fates++[1])[id]?=some 3 from hi) with hi | ⟨-,hi⟩
   . exact h.gone id hi
   . cases hi
 . rcases Gh.ztg (show (s.fates++[1])[id]?=some 1 from hi) with hi | ⟨hi,-⟩
   . exact (h.has id hi).imp (fun ⟨y,y1,y2⟩=>⟨y,List.mem_append_left _ y1,y2⟩) fun h=>h
   . exact .inl ⟨⟨s.fates.length,-1,s.clock,0,0,m⟩,zy161 _ zz4,by show (s.fates.length:Int)=id;omega⟩
end
structure LX (E:List Int) (c:Config) (n d:Nat) (k:Int) (N h S:Nat) (f T:Int) (P:Nat) (Cs:List CH) (l:zdq) (g:GM):Prop where
 lr:LR E N h S f T P Cs l g
 fx:FX c n d l.sender
 clock:l.sender.clock=k
 hT:k<=T
section
variable {E:List Int} {c:Config} {n d N h S:Nat} {k f T:Int} {P:Nat} {Cs:List CH} {l:zdq} {g:GM}
theorem xck {l:zdq} (hx:expire l.sender=l.sender) (fx:FX c n d l.sender):FX c n d (emit l).sender/\(emit l).sender.clock=l.sender.clock:=⟨fx.keep (yua hx),(yua hx).clock⟩
theorem yha (r:LX E c n d k N h S f T P Cs l g) (hok:(GM.zfl g).ok=true):LX E c n d k N h S f T P Cs (emit l) (GM.zfl g):=by
 obtain ⟨e1,e2⟩:=xck (r.lr.sr.expire (by rw [r.clock];exact r.hT)) r.fx;exact ⟨xcl r.lr (by rw [r.clock];exact r.hT) hok,e1,e2.trans r.clock,r.hT⟩
theorem xcd (r:LX E c n d k N h S f T P Cs l g) (hw:g.way≠[]) (hok:(GM.zfw h g).ok=true):LX E c n d k N h S f T P Cs (doS l (stp 2)).1 (GM.zfw h g):=by
 obtain ⟨l1,g1,e1,e2,e3,e4⟩:=xcc r.lr hw hok;rw [e2] at hok ⊢;rw [e1];refine yha ⟨e3,?_,?_,r.hT⟩ hok
 . rcases e4 with e4 | ⟨c,e4⟩
   . rw [e4];exact r.fx
   . rw [e4];exact xdc r.fx c
 . rcases e4 with e4 | ⟨c,e4⟩
   . rw [e4];exact r.clock
   . rw [e4,yny];exact r.clock
theorem xev (r:LX E c n d k N h S f T P Cs l g) {two:Bool} (htwo:two=decide (P=2)) (hc:k+1<=T) (hw:two=true->g.way=[]) (hok:(GM.tick two g).ok=true):LX E c n d (k+1) N h S f T P Cs (doS l (stp 5)).1 (GM.tick two g):=by
 obtain ⟨l1,e1,e3,e4⟩:=xeu r.lr htwo (by rw [r.clock];have:=r.lr.sr.small;omega) hw (zki (g:=GM.zij two g) hok);rw [e1];refine yha ⟨e3,by rw [e4];exact xet r.fx,?_,hc⟩ hok;have h0:=r.lr.sr.clk0;have h1:=r.lr.sr.small;rw [r.clock] at h0;rw [e4,ypv,r.clock,zbh (by omega) (by omega)]
theorem LX.busy (r:LX E c n d k N h S f T P Cs l g):Ln.busy l=GM.busy g:=by
 have hq:l.sender.queue=[]↔g.todo=[]:=by
  have h1:=r.lr.sr.rest;have h2:=r.lr.sr.todo
  constructor
  . intro e
    have:rest l.sender=[]:=by
     unfold rest zpn;rw [e];split<;>rfl
    rw [h1] at this;rw [h2,this];rfl
  . intro e
    rw [e] at h2;exact yam r.lr.si r.lr.sr.qc (by rw [h1];exact zy123.1 h2.symm)
 have ho:l.sender.out=[]↔g.out=[]:=by
  rw [<- zy68,<- zy68,r.lr.sr.len]
 have hw:l.way=[]↔g.way=[]:=by
  rw [<- zy68,<- zy68,r.lr.way.len]
 rw [ywg];unfold GM.busy;by_cases e:g.todo=[]/\g.out=[]/\g.way=[]
 . rw [hq.2 e.1,ho.2 e.2.1,hw.2 e.2.2,e.1,e.2.1,e.2.2];rfl
 . have h1:(g.todo.isEmpty&&g.out.isEmpty&&g.way.isEmpty)=false:=by
    cases hb:(g.todo.isEmpty&&g.out.isEmpty&&g.way.isEmpty) with
    | false=>rfl
    | true=>exact absurd ⟨zy121.1 (GM.zdv (GM.zdv hb)),zy121.1 (GM.zhp (GM.zdv hb)),zy121.1 (GM.zhp hb)⟩ e
   rw [h1];refine zy16 ?_;apply Classical.byContradiction;intro hn;exact e ⟨hq.1 (zy68.1 zz0),ho.1 (zy68.1 zz0),hw.1 (zy68.1 zz0)⟩
theorem ywk (g:GM):g.way.length<=(GM.zfw h g).way.length+1:=by
 unfold GM.zfw;split
 . rename_i e;rw [e];exact zy104 _
 . rename_i m w e
   rw [zos,e,zy6];show w.length+1<=(w++[_]).length+_+1;rw [zy6];omega
 . rename_i c w e
   rw [zos,e,(ydd _ _).2.1,zy6];show w.length+1<=w.length+_+1;omega
theorem yjt:∀ (m:Nat) {l:zdq} {g:GM},LX E c n d k N h S f T P Cs l g->m<=g.way.length->(GM.comes h m g).ok=true->LX E c n d k N h S f T P Cs (zoe m l) (GM.comes h m g)
 | 0,_,_,r,_,_=>r
 | m+1,l,g,r,hm,hok=>by
  have hok:(GM.comes h m (GM.zfw h g)).ok=true:=hok;have hlen:=ywk (h:=h) g;exact yjt m (xcd r (fun e=>by rw [e] at hm;exact absurd hm zz4) (ztp m hok)) zz0 hok
theorem yzd (r:LX E c n d k N h S f T P Cs l g) (hP:P=1) (hc:k+1<=T) (hok:(GM.round h g).ok=true):LX E c n d (k+1) N h S f T P Cs (Ln.round l) (GM.round h g):=by
 unfold GM.round at hok ⊢;unfold Ln.round;rw [r.lr.way.len];exact xev (yjt _ r (zy22 _) (ynb hok)) (by rw [hP];rfl) hc (fun e=>by cases e) hok
theorem yfj:∀ (m:Nat) {k:Int} {l:zdq} {g:GM},LX E c n d k N h S f T P Cs l g->P=1->k+m<=T->GM.zed (GM.settle h m g)=true->∃ k2,LX E c n d k2 N h S f T P Cs (zet m l).1 (GM.settle h m g)
 | 0,k,_,_,r,_,_,_=>⟨k,r⟩
 | m+1,k,l,g,r,hP,hk,hok=>by
  have hok:GM.zed (bif GM.busy g then GM.settle h m (GM.round h g) else g)=true:=hok;show ∃ k2,LX E c n d k2 N h S f T P Cs (zet (m+1) l).1 (bif GM.busy g then GM.settle h m (GM.round h g) else g);cases hb:GM.busy g with
  | false =>
   rw [zqr (.inr (r.busy.trans hb))];exact ⟨k,r⟩
  | true =>
   rw [hb] at hok;rw [zkk (r.busy.trans hb)];exact yfj m (yzd r hP zz0 (zqs m (GM.zdv (GM.zdv hok)))) hP (by push_cast at hk ⊢;omega) hok
theorem yar {l:zdq} {m:Message} (he:zey l.sender m=0):(doS l ⟨1,0,m⟩).1=emit {l with sender:=zii l.sender m}:=by
 unfold doS;rw [zy1 rfl];show (if zey l.sender m=0 then _ else _:zdq×Answer).1=_;rw [zy1 he]
theorem xen (r:LX E c n d k N h S f T P Cs l g) {m:Message} {E':List Int} {Cs':List CH} {t:List Nat} (he:zey l.sender m=0) (hN:N+1<=500) (cs:yvy h S f Cs') (htk:Cs'.take (g.a+g.out.length)=Cs.take (g.a+g.out.length)) (hlen:g.a+g.out.length<=Cs'.length)
 (hrest:rest (zii l.sender m)=Cs'.drop (g.a+g.out.length)) (hend:zig l.sender.mids (zpn l.sender.config.turns (zii l.sender m).queue)=E') (ho:m.ordered=true) (hmt:m.tries=0) (hml:0<=m.life/\(m.life=0/\T=100000\/0<m.life/\k+m.life=T+1))
 (ht:t=(Cs'.drop (g.a+g.out.length)).map fun x=>x.data.length) (hok:(GM.zfl {g with todo:=t}).ok=true):LX E' c (n+1) d k (N+1) h S f T P Cs' (doS l ⟨1,0,m⟩).1 (GM.zfl {g with todo:=t}):=by
 rw [yar he];obtain ⟨⟨si,few,sr,cs0,rr,way,codes,Rle,hle,alen⟩,fx,hk,hkT⟩:=r;have hget:∀ i,i<g.a+g.out.length->Cs'[i]?=Cs[i]?:=by
  intro i hi;have:=congrArg (fun z=>z[i]?) htk;simp only [zy46,zy1 hi] at this;exact this
 have hch:∀ c,(c % 2=0->c / 2<g.a+g.out.length)->zny f Cs' c=zny f Cs c:=by
  intro c hc;unfold zny;by_cases e:c % 2=1
  . rw [zy1 e,zy1 e]
  . rw [zy0 e,zy0 e,hget _ (hc (by omega))]
 refine yha ⟨⟨yas si he zz0,hN,?_,cs,?_,?_,fun m' hm'=>?_,Rle,hle,hlen⟩,xem fx m,hk,hkT⟩ hok
 . obtain ⟨a1,a2,a3,a4,a5,a6,a7,a8,a9,a10,a11,a12,a13,a14,a15,a16,a17,a18,a19,a20,a21⟩:=sr
   refine ⟨⟨a1.turns,a1.part,fun z hz=>?_,a1.mids,hend⟩,a2,a3,a4,a5,fun j x y hx hy=>?_,hrest,ht,cs.zed,a10,a11,a12,a13,a14,a15,a16,a17,a18,a19,⟨a20.win,a20.slow,a20.par,a20.wait,a20.wait1,a20.errs,a20.al⟩,⟨fun z hz=>?_,fun z hz=>?_⟩⟩
   . rcases zy17.1 (show z∈l.sender.queue++[_] from hz) with hz | hz
     . exact a1.ord z hz
     . rw [zy23] at hz;subst hz;exact ho
   . obtain ⟨b1,b2,b3,b4,b5⟩:=a6 j x y hx hy
     refine ⟨b1,b2,fun h4=>?_,b4,b5⟩;obtain ⟨c,c1,c2⟩:=b3 h4;have hlt:g.a+j<g.a+g.out.length:=Nat.add_lt_add_left (Gh.zgd (show g.out[j]?=some y from hy)) g.a;exact ⟨c,(hget _ hlt).trans c1,c2⟩
   . rcases zy17.1 (show z∈l.sender.queue++[_] from hz) with hz | hz
     . exact a21.queue z hz
     . rw [zy23] at hz
       subst hz;exact ⟨hmt,a15,by show l.sender.clock<=100000;omega,hml.1,by rcases hml.2 with h1 | h1;exact .inl h1;exact .inr ⟨h1.1,by show l.sender.clock+m.life=T+1;rw [hk];exact h1.2⟩⟩
   . rcases a21.out z hz with h1 | h1
     . left
       show (l.sender.fates++[1])[z.id.toNat]?=some 3;rw [zy35 (Gh.zgd h1)];exact h1
     . exact .inr h1
 . refine ⟨rr.cum,by show g.R<=Cs'.length;omega,rr.ri.imp (fun h=>h) fun ⟨h1,h2⟩=>⟨h1,?_⟩⟩
   have e:(Cs'.drop h).take (g.R-h)=(Cs.drop h).take (g.R-h):=by
    rw [<- List.drop_take,<- List.drop_take];have:Cs'.take g.R=Cs.take g.R:=by
     have:=congrArg (List.take g.R) htk
     rwa [List.take_take,List.take_take,Nat.min_eq_left Rle] at this
    rw [this]
   show RI S ((RS.new h).run ((Cs'.drop h).take (g.R-h))).T _ _ _;rw [e];exact h2
 . refine way.imp fun p gp hgp hp=>?_
   cases gp with
   | zfq c=>exact hp
   | data q =>
    obtain ⟨p1,p2,p3⟩:=hp;refine ⟨p1,p2,?_⟩;rw [p3];congr 1;refine zy86 fun c hc=>(hch c fun h2=>?_).symm
    exact ((codes q hgp).2 c hc h2).1
 . obtain ⟨c1,c2⟩:=codes m' hm'
   refine ⟨c1,fun c hc h2=>?_⟩;obtain ⟨c3,x,c4⟩:=c2 c hc h2;exact ⟨c3,x,by rw [hget _ c3];exact c4⟩
end
end Tp
namespace Tp
open Ser Snd Ln
def sm (k life:Int) (d:List UInt8):Message:=⟨k,true,life,0,d⟩
theorem yjv {k mid:Nat}:∀ (n p:Nat) (d:List UInt8),(zmz k mid n p d).map (fun x=>x.data.length)=GM.xhj n d.length
 | 0,_,_=>rfl
 | n+1,p,d=>by
  rw [zmz,GM.xhj];by_cases c:d.length<=4
  . rw [zy1 c,zy63 c];rfl
  . rw [zy0 c,show Nat.ble d.length 4=false by cases hb:Nat.ble d.length 4 with | false=>rfl | true=>exact absurd (zy11 hb) c,zy24,yjv n,zy34]
    show (d.take 4).length::_=4::_;rw [zy52,Nat.min_eq_left (by omega)]
theorem ycd {k mid:Nat} (hk:k<4) (hm:mid<60000):∀ (n p:Nat) (d:List UInt8),p+d.length<=255->1<=d.length->∀ x∈zmz k mid n p d,x.xbk
 | 0,_,_,_,_,x,hx=>by cases hx
 | n+1,p,d,hp,hd,x,hx=>by
  rw [zmz] at hx;split at hx
  . rename_i c
    rw [zy23] at hx;subst hx;exact ⟨hk,hm,by show p<=255;omega,hd,c⟩
  . rename_i c
    rcases zy18.1 hx with rfl | hx
    . refine ⟨hk,hm,by show p<=255;omega,?_,?_⟩
      . show 1<=(d.take 4).length
        rw [zy52];omega
      . show (d.take 4).length<=4
        rw [zy52];omega
    . exact ycd hk hm n (p+1) (d.drop 4) zz19 zz19 x hx
theorem yjw {k mid:Nat}:∀ (n p:Nat) (d:List UInt8),(zmz k mid n p d).length<=n
 | 0,_,_=>zy22 _
 | n+1,p,d=>by
  rw [zmz];split
  . simp
  . rw [zy5];have:=yjw (k:=k) (mid:=mid) n (p+1) (d.drop 4);omega
def ends (l:List CH):Nat:=(l.filter CH.last).length
theorem yka (a b:List CH):ends (a++b)=ends a+ends b:=by unfold ends;rw [zy53,zy6]
theorem yqt (l:List CH) (i:Nat):ends (l.drop i)<=ends l:=by
 unfold ends;exact ((List.drop_sublist i l).filter _).length_le
theorem ztq {k mid:Nat}:∀ (n p:Nat) (d:List UInt8),d.length<=n->1<=d.length->ends (zmz k mid n p d)=1
 | 0,_,_,h1,h2=>by omega
 | n+1,p,d,h1,h2=>by
  rw [zmz];split
  . rfl
  . rename_i c
    have:=ztq (k:=k) (mid:=mid) n (p+1) (d.drop 4) zz19 zz19;exact this
theorem zxw:∀ {q:List zaf} {mids:List Int},(∀ m∈q,0<=m.sent/\m.sent<m.message.data.length)->ends (zje mids q)=q.length
 | [],_,_=>rfl
 | m::q,mids,h=>by
  have:=h m zz4;rw [zje,yka,zxw fun x hx=>h x (by simp [hx]),ztq _ _ _ (by rw [zy34];omega) zz19,zy5];omega
theorem yyg {q:List zaf} {t:Int} (h:t=4->∀ m∈q,m.message.stream=0\/m.message.stream=1):(zpn t q).length=q.length:=by
 unfold zpn;split
 . rename_i c
   rw [zy6];replace h:=h c;clear c
   induction q with
   | nil=>rfl
   | cons m q ih =>
    have:=ih fun x hx=>h x zz38
    rw [zy58,zy58,zy5];rcases h m zz4 with e | e
    . rw [zy1 (by simp [e]),zy0 (by simp [e]),zy5];omega
    . rw [zy0 (by simp [e]),zy1 (by simp [e]),zy5];omega
 . rfl
theorem yyh {q:List zaf} {t:Int} {m:zaf} (h:m∈zpn t q):m∈q:=by
 unfold zpn at h;split at h
 . rcases zy17.1 h with h | h
   . exact (zy91.1 h).1
   . exact (zy91.1 h).1
 . exact h
theorem yzu {E:List Int} {N:Nat} {s:zab} (h:SI N s) (hc:QC E s):s.queue.length=ends (rest s):=by
 have hw:=zcn h.cfg;unfold rest;rw [zxw,yyg]
 . intro ht m hm
   have q:=h.queue m hm;have:=q.st0;have:=q.st1;rcases hc.turns with e | ⟨-,e⟩
   . omega
   . omega
 . intro m hm
   have q:=h.queue m (yyh hm);have q1:=q.sent;have q2:=q.parts;have q3:=q.left;rw [hc.part] at q1;omega
def RS.done (st:RS) (k:Nat) (d:List UInt8):RS:=⟨at1 st.T k (st.T k+1),at1 st.U k [],st.lg++[⟨k,st.T k,true,(st.U k).flatten++d⟩]⟩
theorem xbu {α:Type} (F:Nat->α) (k:Nat) (x y:α):at1 (at1 F k x) k y=at1 F k y:=by
 funext j
 unfold at1;split<;>rfl
theorem zsh {α:Type} (F:Nat->α) (k:Nat) (x:α):at1 F k x k=x:=zy1 rfl
theorem ygc {st:RS} {k mid p:Nat} {d:List UInt8}:st.step ⟨k,mid,p,true,d⟩=st.done k d:=by
 unfold RS.step RS.done;rw [zy1 rfl];dsimp only;rw [zy74];simp
theorem step_done {st:RS} {k mid p:Nat} {d:List UInt8}:(st.step ⟨k,mid,p,false,d.take 4⟩).done k (d.drop 4)=st.done k d:=by
 unfold RS.step RS.done;rw [zy0 (show ¬ (false=true) by decide)];dsimp only;rw [xbu,zsh,zy74,zy33];simp
theorem yuj {k mid:Nat}:∀ (n p:Nat) (d:List UInt8) (st:RS),d.length<=n->1<=d.length->st.run (zmz k mid n p d)=st.done k d
 | 0,_,_,_,h1,h2=>by omega
 | n+1,p,d,st,h1,h2=>by
  rw [zmz];split
  . exact ygc
  . have:=yuj (k:=k) (mid:=mid) n (p+1) (d.drop 4) (st.step ⟨k,mid,p,false,d.take 4⟩) zz19 zz19
    rw [step_done] at this;exact this
theorem yks {S k mid:Nat} (hk:k<S):∀ (n p:Nat) (d:List UInt8) (st:RS) (r:List CH),d.length<=n->1<=d.length->st.T k=mid->(st.U k).length=p->mid<1000->zse (st.U k)+d.length<=60->ybn S (st.done k d) r->ybn S st (zmz k mid n p d++r)
 | 0,_,_,_,_,h1,h2,_,_,_,_,_=>by omega
 | n+1,p,d,st,r,h1,h2,h3,h4,h5,h6,h7=>by
  rw [zmz];split
  . refine ⟨hk,h3.symm,h4.symm,by show st.T k<1000;omega,h6,?_⟩
    show ybn S (st.step ⟨k,mid,p,true,d⟩) r;rw [ygc];exact h7
  . have ht:(d.take 4).length=4:=by rw [zy52];omega
    refine ⟨hk,h3.symm,h4.symm,by show st.T k<1000;omega,by show zse (st.U k)+(d.take 4).length<=60;omega,?_⟩;show ybn S (st.step ⟨k,mid,p,false,d.take 4⟩) (zmz k mid n (p+1) (d.drop 4)++r);have e1:(st.step ⟨k,mid,p,false,d.take 4⟩).U k=st.U k++[d.take 4]:=zsh _ _ _;refine yks hk n (p+1) (d.drop 4) _ r zz19 zz19 h3 (by rw [e1,zy6,h4];rfl) h5 ?_ (by rw [step_done];exact h7);rw [e1,zy34];unfold zse at h6 ⊢;rw [zy36,List.sum_append,zy24,zy80,zy100,zy149,ht];omega
theorem xek (st:RS) (a b:List CH):st.run (a++b)=(st.run a).run b:=zy77 ..
theorem yex:∀ (q:List zaf) (mids:List Int) (x:List zaf),zje mids (q++x)=zje mids q++zje (zig mids q) x
 | [],_,_=>rfl
 | m::q,mids,x=>by rw [zy38,zje,zje,yex q,zig,zy33]
theorem yeb:∀ (q:List zaf) (mids:List Int) (x:List zaf),zig mids (q++x)=zig (zig mids q) x
 | [],_,_=>rfl
 | m::q,mids,x=>by rw [zy38,zig,yeb q,zig]
def yyb (E:List Int) (k:Nat):List Int:=setAt E k fun n=>W (n+1)
theorem ymj {mids:List Int} {id came:Int} {m:Message}:zje mids [⟨id,-1,came,0,0,m⟩]=zmz m.stream.toNat (mids[m.stream.toNat]?.getD 0).toNat m.data.length 0 m.data/\zig mids [⟨id,-1,came,0,0,m⟩]=yyb mids m.stream.toNat:=by
 refine ⟨?_,?_⟩
 . rw [zje,zje,zy8]
   unfold xgk;rw [zy1 (show (-1:Int)<0 by decide)];rfl
 . rw [zig,zig]
   unfold yic;rw [zy1 (show (-1:Int)<0 by decide)];rfl
theorem yuf {E:List Int} {s:zab} (ht:s.config.turns=1) (hE:zig s.mids (zpn s.config.turns s.queue)=E) (m:Message) :
 rest (zii s m)=rest s++zmz m.stream.toNat (E[m.stream.toNat]?.getD 0).toNat m.data.length 0 m.data/\zig s.mids (zpn s.config.turns (zii s m).queue)=yyb E m.stream.toNat:=by
 have ho:∀ q,zpn s.config.turns q=q:=fun q=>by unfold zpn;rw [zy0 (by rw [ht];decide)]
 rw [ho] at hE;unfold rest;show zje s.mids (zpn s.config.turns (zii s m).queue)=_/\_;rw [ho,ho];show zje s.mids (s.queue++[_])=_/\zig s.mids (s.queue++[_])=_;rw [yex,yeb,hE];exact ⟨by rw [ymj.1],ymj.2⟩
section
variable {E:List Int} {c:Config} {n d N h S:Nat} {k f T:Int} {P:Nat} {Cs:List CH} {l:zdq} {g:GM}
theorem yzi (r:LX E c n d k N h S f T P Cs l g) {st:Nat} {life:Int} {D:List UInt8} (ht:c.turns=1) (hs:(st:Int)<c.streams) (hl:0<=life/\life<=1000/\(life=0/\T=100000\/0<life/\k+life=T+1)) (hD:1<=D.length/\D.length<=60) (hw:ends Cs<c.waiting) (hN:N+1<=500) {mid:Nat} (hm:E[st]?.getD 0=mid)
 (cs:yvy h S f (Cs++zmz st mid D.length 0 D)) (hok:(GM.send g (GM.cut D.length)).ok=true):LX (yyb E st) c (n+1) d k (N+1) h S f T P (Cs++zmz st mid D.length 0 D) (doS l ⟨1,0,sm st life D⟩).1 (GM.send g (GM.cut D.length)):=by
 have hc:=r.fx.cfg;have hfew:=yzu r.lr.si r.lr.sr.qc;rw [r.lr.sr.rest] at hfew;have hdrop:=yqt Cs (g.a+g.out.length);obtain ⟨e1,e2⟩:=yuf (by rw [hc];exact ht) r.lr.sr.qc.ends (sm st life D);have hst:(sm st life D).stream.toNat=st:=by show ((st:Nat):Int).toNat=st;omega
 rw [hst,hm,show ((mid:Nat):Int).toNat=mid by omega] at e1;rw [hst] at e2;have halen:=r.lr.alen;unfold GM.send at hok ⊢;refine xen r ?_ hN cs (by rw [zy72 halen]) (by rw [zy6];omega) ?_ e2 rfl rfl ⟨hl.1,hl.2.2⟩ ?_ hok
 . unfold zey
   rw [zy0,zy0,zy0]
   . rw [hc];omega
   . show ¬ (D.length<1\/D.length>60);omega
   . show ¬ ((st:Int)<0\/(st:Int)>=l.sender.config.streams\/life<0\/life>1000\/(0:Int)<0\/(0:Int)>1000)
     rw [hc];omega
 . rw [e1,r.lr.sr.rest,zy129 halen];rfl
 . rw [zy129 halen,zy36,<- r.lr.sr.todo,yjv];rfl
theorem xgl {c:Config} (hwr:zmw c=0) (h1:c.turns=1\/c.turns=4/\c.streams=2) (h2:c.part=4) (h3:c.packet=60) {P S:Nat} (h4:c.paths=P) (h5:c.streams=S) (h6:S=1\/S=2) {T:Int} (hT:0<=T/\T<=100000) :
 LX (List.replicate (2*c.streams).toNat 0) c 0 0 0 0 0 S c.first T P [] (zpm c) (GM.new []):=by
 obtain ⟨w1,w2,w3,w4,w5,w6,w7,w8,w9,w10,w11,w12,w13,w14⟩:=zcn hwr;have hsi:=xau hwr;refine ⟨⟨hsi,by decide,?_,?_,?_,.nil,fun m hm=>(by cases hm),zy22 _,zy22 _,zy22 _⟩,⟨rfl,rfl,fun f hf=>(by cases hf),fun id hi=>(by cases hi),fun id hi=>absurd hi (Nat.not_lt_zero _),fun id hi=>(by cases hi)⟩,rfl,hT.1⟩
 . refine ⟨⟨h1,h2,fun m hm=>(by cases hm),fun n hn=>?_,?_⟩,h3,?_,?_,rfl,fun j x y hx hy=>(by cases hx),?_,rfl,fun x hx=>(by cases hx),?_,fun i p hi hp=>?_,fun _=>show 0<=3 by decide,rfl,show (280:Int)<=400 by decide,zy99 _,show (0:Int)<=100000 by decide,hT.2,w11,w12,⟨by decide,by decide,by decide,by decide,by decide,by decide,by decide⟩,⟨fun m hm=>(by cases hm),fun x hx=>(by cases hx)⟩⟩
   . have:=zy64 (show n∈List.replicate (2*c.streams).toNat (0:Int) from hn)
     omega
   . show zig (List.replicate (2*c.streams).toNat 0) (zpn c.turns [])=_
     unfold zpn;split<;>rfl
   . show (List.replicate c.paths.toNat (Paths.new c.part)).length=P
     rw [zy76];omega
   . show c.first-1=c.first-1+((0:Nat):Int);omega
   . show zje _ (zpn c.turns [])=_
     unfold zpn;split<;>rfl
   . show (List.replicate c.paths.toNat (Paths.new c.part))[0]?=_
     rw [zy67,zy1 (by omega),h2];rfl
   . have hp:(List.replicate c.paths.toNat (Paths.new c.part))[i]?=some p:=hp
     have:=zy64 (zy12 hp);rw [h2] at this;subst this;exact ⟨rfl,rfl,fun h=>by (have h:i<0:=h);omega,fun _=>rfl⟩
 . exact ⟨by decide,fun x hx=>(by cases hx),w11,w12,trivial,.inl rfl,h6,zy22 _⟩
 . exact ⟨by show c.first-1=c.first-1+((0:Nat):Int);omega,zy22 _,.inr ⟨zy22 _,xgm h5⟩⟩
end
end Tp
namespace Tp
namespace GM
noncomputable def ymq (n:Nat):Nat->GM
 | 0=>new []
 | t+1=>send (ymq n t) (cut n)
noncomputable def zbs (n t:Nat):GM:=settle 0 400 (ymq n t)
end GM
end Tp
namespace Tp
namespace GM
end GM
end Tp
namespace Tp
namespace GM
end GM
end Tp
namespace Tp
namespace GM
end GM
end Tp
namespace Tp
namespace GM
end GM
end Tp
end Go.HL
