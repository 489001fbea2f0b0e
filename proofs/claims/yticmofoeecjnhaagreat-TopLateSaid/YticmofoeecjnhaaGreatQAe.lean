/- Walks, contracts and laws of the law's functions: part 5. No condition. -/
import Derived.Test.YticmofoeecjnhaaGreatQAd
open Go.Proofs
set_option maxHeartbeats 32000000
set_option maxRecDepth 100000
set_option linter.unusedSimpArgs false
theorem yy31 {P:Prop} (h:P:=by
 refine sD ?_
 (exact zcc [(0,some 910),(1,some 911),(2,some 912),(3,some 913)])):P:=h
theorem yy73 {P:Prop} (h:P:=by
 try refine sG ?_
 (exact zcc [(0,some 910),(1,some 911),(2,some 912),(3,some 913)])):P:=h
theorem yy33 {P:Prop} (h:P:=by
 refine ⟨by dsimp only;omega,by dsimp only;omega,by dsimp only;omega,u3,u5,fun s hs=>?_,by dsimp only;omega,?_,h9,fun t htt=>by have:=h10 t htt;dsimp only;omega,h11⟩
 . have:=h6 s (u4 s hs);dsimp only;omega
 . dsimp only
   rcases u6 with u6 | ⟨s,hs,u6⟩
   . omega
   . have:=h6 s hs;omega):P:=h
theorem yy11 {P:Prop} (h:P:=by
 exact zam [(0,some 20)] rfl rfl trivial rfl rfl ⟨⟨rfl,.inl ⟨20,rfl,rfl⟩⟩,trivial⟩):P:=h
theorem yy21 {P:Prop} (h:P:=by
 refine sD ?_;exact zam [(0,some 950)] rfl rfl trivial rfl rfl ⟨⟨rfl,.inl ⟨950,rfl,rfl⟩⟩,trivial⟩):P:=h
theorem yy16 {P:Prop} (h:P:=by
 have hk4:k<400:=by omega
 obtain ⟨n,hn⟩:∃ n,400-k=n+1:=⟨400-k-1,by omega⟩
 rw [hn,zlp hbz] at k2;dsimp only at k2;have hli:=yqh k3 zz0 zz0;have hsl2:=yqi k3 k4 zz0 zz0;have pr:=yay y k3 k4 zz0 zz0;generalize round y=z at k2 hli hsl2 pr
 (try refine sG ?_)
 (refine cP ?_;refine dL pr ?_)
 refine sF ?_;refine hQ _ _ ?_;conv=>whnf
 exact ⟨⟨(k+1,z),by omega,by dsimp only;rw [show 400-(k+1)=n by omega];exact ⟨k2.1,by omega⟩,by dsimp only;rw [show N+41*(k+1)=N+41*k+41 by omega,show M+4920*(k+1)=M+4920*k+4920 by omega];exact hli,hsl2⟩,(zem [(1,some 1),(2,some 2),(4,some 4)]),by show 400-(k+1)<400-k;omega⟩):P:=h
theorem yy79 {P:Prop} (h:P:=by
 refine hQ _ _ ?_;conv=>whnf
 obtain ⟨T1,T2⟩:=T;obtain ⟨e1,e2⟩:=k2;dsimp only at e1 e2;subst e1;rw [show ((T2:Nat):Int)=k from by omega]
 try rfl):P:=h
theorem yy98 {P:Prop} (h:P:=by
 rw [ht] at ih;rw [show g.a+(k+1)=g.a+k+1 by omega] at ih;simp only [zy24,List.singleton_append] at ih;exact ih):P:=h
namespace Go.HL
namespace Rcv
open Srt Jn Ser
theorem zyd (r:Receiver) (k:Nat) (z:Int) (hz:z=k) (hf:xlw r k) :
 zao Tryz.prog 182 [.ptr 1000 0,i64 z] (lk .free (tkH r)) (.tup []) (lk .free (tkD (turns r k))):=by
 subst hz;exact xah r k hf
structure ybj (r:Receiver) (c:Chunk) (n:Int):Prop where
 kind:c.kind=1
 low:0<=c.stream
 high:c.stream<r.zbf.length
 zew:r.cum<n
 fresh:has r.zaq n=false
 room:n=r.cum+1\/(tot r.pieces:Int)+c.data.length<=400
def put (r:Receiver) (c:Chunk):Receiver :=
 {r with pieces:=r.pieces++[⟨zcw r.cum c.tag,c⟩],cum:=(up (add r.zaq (zcw r.cum c.tag)) r.cum).1,zaq:=(up (add r.zaq (zcw r.cum c.tag)) r.cum).2}
instance xpo (r:Receiver) (c:Chunk) (n:Int):Decidable (ybj r c n) :=
 decidable_of_iff (c.kind=1/\0<=c.stream/\c.stream<r.zbf.length/\r.cum<n/\has r.zaq n=false/\(n=r.cum+1\/(tot r.pieces:Int)+c.data.length<=400)) ⟨fun ⟨a,b,d,e,f,g⟩=>⟨a,b,d,e,f,g⟩,fun ⟨a,b,d,e,f,g⟩=>⟨a,b,d,e,f,g⟩⟩
def data (r:Receiver) (c:Chunk):Receiver:=if ybj r c (zcw r.cum c.tag) then (if c.ordered then turns (put r c) c.stream.toNat else (dlv (put r c) c.stream c.mid false).1) else r
structure xpq (r:Receiver) (c:Chunk):Prop where
 fit:Fit r
 zfu:zfu r.zaq
 hi:∀ s∈r.zaq,s.hi<=2 ^ 39
 cum1:-(2 ^ 39)<=r.cum
 cum2:r.cum<=2 ^ 39
 zbf:∀ t∈r.zbf,-(2 ^ 59)<t/\t<2 ^ 59
 data:c.data.length<2 ^ 21
 more:tot r.pieces<2 ^ 21
 many:r.pieces.length<2 ^ 21
theorem yuo {l:List Span} {n M:Int} (h:Ser.zfu l) (h1:-9223372036854775808<=n) (h2:n<=9223372036854775807) (hl:∀ s∈l,s.hi<=M) (hn:n<=M):∀ s∈add l n,s.hi<=M:=by
 obtain ⟨r1,r2⟩:=ybm h h1 h2;intro s hs;have h3:=(zjv r1 s hs).1;have h4:has (add l n) s.hi=true:=zmm.2 ⟨s,hs,h3,zy80 _⟩;rw [r2,zy74] at h4;rcases h4 with h4 | h4
 . obtain ⟨t,ht,_,h5⟩:=zmm.1 h4
   have:=hl t ht;omega
 . have:s.hi=n:=by simpa using h4
   omega
theorem ymv (l:List Span) (n:Int):(add l n).length<=l.length+1:=by
 unfold add;split
 . omega
 . have h1:(zzl n (below l n)).1.length<=(below l n).length:=by
    unfold zzl;split
    . split
      . simp
      . exact zy19 _
    . exact zy19 _
   have h2:(zuh n (zew l n)).2.length<=(zew l n).length:=by
    cases zew l n with
    | nil=>exact zy19 _
    | cons t r=>simp only [zuh];split<;>simp
   have h3:l.length=(below l n).length+(zew l n).length:=by
    conv=>lhs;rw [split l n]
    exact zy4
   simp only [zy4,zy8];omega
theorem yzs (r:Receiver) (c:Chunk) (hf:xpq r c):zao Tryz.prog 152 [r.hv,c.hv] zaf (xpl (data r c) 0 1 2 3) (lk .free (xed (data r c) 0 1 2 3 [])):=by
 obtain ⟨h1,h2,h3,h4,h5,h6,h7,h8,h9⟩:=hf;obtain ⟨n1,n2,n3⟩:=zms (a:=r.cum) (t:=c.tag) zz0 zz0;generalize hD:data r c=D;refine zan mixed Tryz.func152 zz5 [] (fun _=>.inl rfl) ?_;(conv=>whnf)
 (refine zat [(0,910),(1,911),(2,912),(3,913)]  ?_;(conv=>whnf);refine dO (zdm r h1) ?_)
 (refine cL ?_;refine dL (zlb r.cum c.tag) ?_)
 have no:¬ ybj r c (zcw r.cum c.tag)->D=r:=fun h=>by rw [<- hD,data,zy0 h]
 by_cases c1:c.kind=1
 case neg =>
  obtain rfl:=no fun h=>c1 h.1
  refine zai zz52 ?_;conv=>whnf
  exact yy31
 refine zah (by simp [c1]) (zw ?_);by_cases c2:c.stream<0
 . obtain rfl:=no fun h=>by have:=h.2;omega
   refine zai zz47 ?_;conv=>whnf
   exact yy31
 refine zah zz47 (zw ?_);by_cases c3:c.stream>=r.zbf.length
 . obtain rfl:=no fun h=>by have:=h.3;omega
   refine zai (by simpa using c3) (zw ?_);exact yy31
 refine zah (by simpa using c3) (zw ?_);by_cases c4:zcw r.cum c.tag<=r.cum
 . obtain rfl:=no fun h=>by have:=h.4;omega
   refine zai (by simpa using c4) (zw ?_);exact yy31
 refine zah (by simpa using c4) (zw ?_)
 (refine cL ?_;refine dL (yqu r.zaq (zcw r.cum c.tag) (by have:=h1.zaq;omega)) ?_)
 cases c5:has r.zaq (zcw r.cum c.tag) with
 | true =>
  obtain rfl:=no fun h=>by have:=h.5;rw [c5] at this;cases this
  (conv=>whnf);exact yy31
 | false =>
 (conv=>whnf);refine sF ?_;have g1:=h1.zaq;have g2:=h1.log;have rest:ybj r c (zcw r.cum c.tag)->D=if c.ordered then turns (put r c) c.stream.toNat else (dlv (put r c) c.stream c.mid false).1:=fun h=>by rw [<- hD,data,zy1 h]
 have xfn:tot (put r c).pieces=tot r.pieces+c.data.length:=by show tot (r.pieces++[_])=_;rw [zyh,zfl];rfl
 have hpl:(put r c).pieces.length=r.pieces.length+1:=by show (r.pieces++[_]).length=_;simp
 have hadd:=yuo (n:=zcw r.cum c.tag) (M:=1099511627776) h2 zz0 zz0 (fun s hs=>by have:=h3 s hs;omega) zz0;have hal:=ymv r.zaq (zcw r.cum c.tag);by_cases c6:zcw r.cum c.tag=r.cum+1
 case' pos =>
  have ok:ybj r c (zcw r.cum c.tag):=⟨c1,by omega,by omega,by omega,c5,.inl c6⟩
  refine zah (by simpa using c6) ?_;conv=>whnf
  ((refine zbi ?_ ?_;(· kernel_rfl);conv=>whnf);try refine sG ?_)
 case' neg =>
  refine zai (by simpa using c6) (zw ?_)
  (refine cL ?_;refine dL (yje r zz0 zz0) ?_)
  refine sF ?_;by_cases c7:(tot r.pieces:Int)+c.data.length>400
  case pos =>
   obtain rfl:=no fun h=>by have:=h.6;omega
   refine sD ?_;refine zai (by simpa using c7) (zw ?_);exact yy73
  have ok:ybj r c (zcw r.cum c.tag):=⟨c1,by omega,by omega,by omega,c5,.inr zz0⟩
  refine sD ?_;refine zah (by simpa using c7) (zw ?_)
  try refine sG ?_
 all_goals (
  have rest:=rest ok
  (refine zat [(0,66)]  ?_;(conv=>whnf);refine dO (Cl.zdb c.data zz0) ?_)
  refine zaa (c:=((r.pieces.map zav.row).length+1)*136<=140737488355328) zz4 (zw ?_);refine sD ?_
  (refine zat [(0,88)]  ?_;(conv=>whnf);refine dO (xek r.zaq (zcw r.cum c.tag) h2 zz0 zz0 zz0) ?_)
  (refine zat [(0,92)]  ?_;(conv=>whnf);refine dO (xai (add r.zaq (zcw r.cum c.tag)) r.cum hadd zz0 zz0 zz0) ?_)
  refine sD ?_;obtain ⟨k,hk⟩:∃ k:Nat,c.stream=k:=⟨c.stream.toNat,by omega⟩
  have hkl:k<r.zbf.length:=by omega
  have htk:(put r c).zbf[k]?.getD 0=r.zbf[k]:=by show r.zbf[k]?.getD 0=_;rw [zy2 hkl];rfl
  have htb:=h6 _ (zy81 hkl);refine zag (fun ho=>?_) (fun ho=>?_)
  . rw [zy1 ho,show c.stream.toNat=k by omega] at rest
    subst rest;(conv=>whnf)
    (refine zac [] [(1000,10),(1001,92),(1002,78),(1003,912),(1004,913)] [(0,920),(1,921),(2,922),(3,923)] ?_;(conv=>whnf);refine dG (zyd (put r c) k _ hk ⟨by omega,by omega,by show r.log.length+_<_;omega,hkl,by rw [htk];omega,by rw [htk];omega⟩) ?_ ⟨rfl,rfl,rfl,⟨zz1,⟨zz1,⟨⟨rfl,_,rfl,.inl ⟨rfl,zce (f:=zav.row) (x:=⟨zcw r.cum c.tag,c⟩) rfl rfl⟩⟩,⟨zz1,⟨zz1,trivial⟩⟩⟩⟩⟩,⟨⟨rfl,rfl⟩,⟨⟨rfl,rfl⟩,⟨⟨rfl,rfl⟩,⟨⟨rfl,rfl⟩,trivial⟩⟩⟩⟩,rfl,rfl,rfl⟩)
    (exact zcc [(0,some 920),(1,some 921),(2,some 922),(3,some 923)])
  . rw [zy0 (by rw [ho];decide)] at rest
    subst rest;(conv=>whnf)
    (refine zac [] [(1000,10),(1001,92),(1002,78),(1003,912),(1004,913)] [(0,920),(1,921),(2,922),(3,923)] ?_;(conv=>whnf);refine dG (zmx (put r c) c.stream c.mid false zz0 zz0 (by show r.log.length<_;omega)) ?_ ⟨rfl,rfl,rfl,⟨zz1,⟨zz1,⟨⟨rfl,_,rfl,.inl ⟨rfl,zce (f:=zav.row) (x:=⟨zcw r.cum c.tag,c⟩) rfl rfl⟩⟩,⟨zz1,⟨zz1,trivial⟩⟩⟩⟩⟩,⟨⟨rfl,rfl⟩,⟨⟨rfl,rfl⟩,⟨⟨rfl,rfl⟩,⟨⟨rfl,rfl⟩,trivial⟩⟩⟩⟩,rfl,rfl,rfl⟩)
    (exact zcc [(0,some 920),(1,some 921),(2,some 922),(3,some 923)]))
def shift (c:Int) (s:Span):Span:=⟨s.lo-c,s.hi-c⟩
def zle (r:Receiver):Chunk:=⟨2,tag r.cum,0,0,0,false,false,[],(r.zaq.take 6).map (shift r.cum),(if 0>400-(tot r.pieces:Int) then 0 else 400-(tot r.pieces:Int)),[]⟩
theorem ytz {α:Type} (A:List α) (x:α) (f:α->α):((A++[x]).take 6).map f=if A.length<6 then (A.take 6).map f++[f x] else (A.take 6).map f:=by
 split
 . rename_i h
   rw [zy34 (by simp;omega),zy34 (by omega)];simp
 . rename_i h
   rw [zy79 (by omega)]
abbrev xnt (r:Receiver) (v:HV):List HV:=[i64 2,i64 (zle r).tag,i64 0,i64 0,i64 0,zbm false,zbm false,zhh,v,i64 (zle r).room,zhh]
theorem xab (r:Receiver) (h1:r.zaq.length<2 ^ 40) (h2:r.pieces.length<2 ^ 40) (h3:tot r.pieces<2 ^ 60) (hc:-(2 ^ 60)<=r.cum) (hc2:r.cum<=2 ^ 60) (hsp:∀ s∈r.zaq,-(2 ^ 61)<=s.lo/\s.lo<=2 ^ 61/\-(2 ^ 61)<=s.hi/\s.hi<=2 ^ 61) :
 zao Tryz.prog 154 [r.hv] zaf (.agg (xnt r (.own 0))) (lk .free [(0,xnl (zle r).zaq)]):=by
 refine zan mixed Tryz.func154 zz5 [] (fun _=>.inl rfl) ?_;(conv=>whnf)
 (refine cL ?_;refine dL (zdd r.cum) ?_)
 (refine cL ?_;refine dL (yje r zz0 zz0) ?_)
 refine sF ?_;refine sD ?_;refine ⟨{x:List Span×List Span // r.zaq=x.1++x.2},fun | ⟨(A,B),_⟩=>hs 43 [(1,.ptr 1 0),(2,.ptr 2 0),(3,.ptr 3 0),(15,zaq r.zaq),(16,i64 r.zaq.length),(17,i64 A.length)] [(1,.live (.cells 37 (xee r (zaq r.zaq) (pieces r.pieces) (.p (.sl 1 (r.zbf.map fun n=>[pi n]))) (.p (.sl 4 (r.log.map zcr.row)))))),(2,.live (.cells 61 [i64 0,i64 0,i64 0,i64 0,i64 0,zbm false,zbm false,zhh,zhh,i64 0,zhh])),(3,.live (.cells 61 (xnt r (.own 900)))),(900,xnl ((A.take 6).map (shift r.cum)))],fun x=>x.1.2.length,⟨([],r.zaq),rfl⟩,?_,?_⟩
 . exact (zem [(1,some 1),(2,some 2),(3,some 3),(900,none)])
 rintro ⟨⟨A,B⟩,h⟩;dsimp only at h;have hl:r.zaq.length=A.length+B.length:=by rw [h];simp
 (conv=>whnf);cases B with
 | cons p B =>
  have hp:=hsp p zz68;rw [zy8] at hl;have hq:((A.take 6).map (shift r.cum)).length=min 6 A.length:=by simp
  refine sT ?_;refine zal h rfl (zw ?_);have hsn:=ytz A p (shift r.cum);by_cases c:A.length<6
  . rw [zy1 c] at hsn
    refine sT ?_;refine sF ?_;refine sF ?_;refine zaa (c:=((((A.take 6).map (shift r.cum)).map Span.row).length+1)*16<=140737488355328) zz4 (zw ?_)
    try refine sG ?_
    refine sF ?_;refine ⟨⟨(A++[p],B),by rw [h];simp⟩,(zcy [(1,some 1),(2,some 2),(3,some 3),(900,some 39)] (by repeat' (first | exact z0 | refine z1 ?_ | refine ⟨?_,?_⟩ | ((exact zce (f:=Span.row) hsn rfl)) | exact z2))),by simp⟩
  . rw [zy0 c] at hsn
    refine sN ?_;refine sF ?_;refine ⟨⟨(A++[p],B),by rw [h];simp⟩,(zcy [(1,some 1),(2,some 2),(3,some 3),(900,some 900)] (by repeat' (first | exact z0 | refine z1 ?_ | refine ⟨?_,?_⟩ | ((exact zar (by rw [hsn]))) | exact z2))),by simp⟩
 | nil =>
  rw [zy16] at hl;rw [zy9] at h;refine sN ?_
  (exact zdn [(0,some 900)] (by repeat' (first | exact z0 | refine z1 ?_ | refine ⟨?_,?_⟩ | ((exact zar (by rw [<- h];rfl))) | exact z2)))
end Rcv
namespace Rcv
open Srt Jn Ser
def pass (r:Receiver) (k:Nat):Receiver:=yez (if (dlv r k (tag (r.zbf[k]?.getD 0)) true).2 then (dlv r k (tag (r.zbf[k]?.getD 0)) true).1 else zma (dlv r k (tag (r.zbf[k]?.getD 0)) true).1 k (tag (r.zbf[k]?.getD 0)) true) k
def zmu:Nat->Receiver->Nat->Receiver
 | 0,r,_=>r
 | n+1,r,k=>zmu n (pass r k) k
def ybd (r:Receiver) (k:Nat) (n:Int):Receiver:=zmu (n+1-r.zbf[k]?.getD 0).toNat r k
def zkz (r:Receiver) (s:zgg):Receiver :=
 if s.stream<0\/(r.zbf.length:Int)<=s.stream then r else if s.ordered=false then zma r s.stream s.mid false
 else turns (ybd r s.stream.toNat (zcw (r.zbf[s.stream.toNat]?.getD 0) s.mid)) s.stream.toNat
structure xrf (r:Receiver):Prop where
 pieces:r.pieces.length<2 ^ 22
 bytes:tot r.pieces<2 ^ 22
 log:r.log.length+r.pieces.length<2 ^ 37
 lo:∀ t∈r.zbf,-(2 ^ 57)<t
 hi:∀ t∈r.zbf,t<2 ^ 57
theorem znq (r:Receiver) (k:Nat):(pass r k).zbf=r.zbf.set k (r.zbf[k]?.getD 0+1)/\(pass r k).cum=r.cum/\(pass r k).zaq=r.zaq/\(pass r k).config=r.config/\(pass r k).pieces.length<=r.pieces.length/\tot (pass r k).pieces<=tot r.pieces /\
 (pass r k).log.length+(pass r k).pieces.length<=r.log.length+r.pieces.length:=by
 obtain ⟨h1,h2,h3,h4,h5,h6,h7⟩:=zkl r k (tag (r.zbf[k]?.getD 0)) true;unfold pass;generalize dlv r k (tag (r.zbf[k]?.getD 0)) true=D at *
 obtain ⟨y,ok⟩:=D;dsimp only at h1 h2 h3 h4 h5 h6 h7 ⊢;cases ok with
 | true=>exact ⟨by show y.zbf.set _ (y.zbf[k]?.getD 0+1)=_;rw [h1],h2,h3,h4,h5,h6,h7⟩
 | false =>
  have f1:=zy72 (fun p=>!zdg k (tag (r.zbf[k]?.getD 0)) true p) y.pieces;have f2:=znx (fun p=>!zdg k (tag (r.zbf[k]?.getD 0)) true p) y.pieces;refine ⟨by show y.zbf.set _ (y.zbf[k]?.getD 0+1)=_;rw [h1],h2,h3,h4,?_,?_,?_⟩
  . show (List.filter _ _).length<=_;omega
  . show tot (List.filter _ _)<=_;omega
  . show _+(List.filter _ _).length<=_;show y.log.length+_<=_;omega
theorem xas {r:Receiver} {k:Nat} {n:Int} (h:k<r.zbf.length) (hn:r.zbf[k]?.getD 0<=n):ybd r k n=ybd (pass r k) k n:=by
 obtain ⟨h1,_⟩:=znq r k;unfold ybd;rw [h1,zy17 h];show zmu _ _ _=zmu (n+1-(r.zbf[k]?.getD 0+1)).toNat _ _;obtain ⟨j,hj⟩:∃ j,(n+1-r.zbf[k]?.getD 0).toNat=j+1:=⟨(n+1-r.zbf[k]?.getD 0).toNat-1,by omega⟩
 rw [hj,zmu,show (n+1-(r.zbf[k]?.getD 0+1)).toNat=j by omega]
theorem xes {r:Receiver} {k:Nat} {n:Int} (hn:n<r.zbf[k]?.getD 0):ybd r k n=r:=by
 unfold ybd;rw [show (n+1-r.zbf[k]?.getD 0).toNat=0 by omega];rfl
theorem zyc (r:Receiver) (s:zgg) (hf:xrf r) :
 zao Tryz.prog 184 [.ptr 1000 0,s.hv] (lk .free (tkH r)) (.tup []) (lk .free (tkD (zkz r s))):=by
 obtain ⟨f1,f2,f3,f4,f5⟩:=hf;generalize hT:zkz r s=T;refine zan mixed Tryz.func184 zz5 [1000,1001,1002,1003,1004] zbk ?_;(conv=>whnf);by_cases c1:s.stream<0
 . rw [zkz,zy1 (.inl c1)] at hT
   subst hT;refine zai zz52 ?_;conv=>whnf
   refine sD ?_;exact yy78
 refine zah zz52 (zw ?_);refine sD ?_;by_cases c2:(r.zbf.length:Int)<=s.stream
 . rw [zkz,zy1 (.inr c2)] at hT
   subst hT;refine zai zz47 ?_;conv=>whnf
   exact yy78
 refine zah zz47 (zw ?_);cases hs3:s.ordered with
 | false =>
  rw [zkz,zy0 (by omega),zy1 hs3] at hT;subst hT;(conv=>whnf)
  try refine sG ?_
  (refine zac [] [(1000,1000),(1001,1001),(1002,1002),(1003,1003),(1004,1004)] [(0,910),(1,911),(2,912),(3,913)] ?_;(conv=>whnf);refine dG (zxw r s.stream s.mid false zz0) ?_)
  exact yy57
 | true =>
 rw [zkz,zy0 (by omega),zy0 (by rw [hs3];decide)] at hT;obtain ⟨k,hk⟩:∃ k:Nat,s.stream=k:=⟨s.stream.toNat,by omega⟩
 have hkl:k<r.zbf.length:=by omega
 have hg:r.zbf[k]?.getD 0=r.zbf[k]:=by simp [hkl]
 have b1:=f4 _ (zy81 hkl);have b2:=f5 _ (zy81 hkl);rw [show s.stream.toNat=k by omega,hg] at hT;(conv=>whnf)
 try refine sG ?_
 refine sO ?_;refine zdw k zz0 hkl (zw ?_)
 (refine cL ?_;refine dL (zlb r.zbf[k] s.mid) ?_)
 refine sD ?_;obtain ⟨n1,n2,n3⟩:=zms (a:=r.zbf[k]) (t:=s.mid) zz0 zz0;generalize zcw r.zbf[k] s.mid=n at hT n1 n2 n3 ⊢;refine ⟨{x:Receiver // xlw x k/\x.zbf[k]?.getD 0<=2 ^ 58/\turns (ybd x k n) k=T},fun | ⟨x,_⟩=>hsP [1000,1001,1002,1003,1004] 88 [(0,.ptr 1000 0),(3,.ptr 3 0),(4,i64 n)] ((1000,.live (.cells 225 (xee x (.own 900) (.own 901) (.own 902) (.own 903))))::xed x 900 901 902 903 [(3,.live (.cells 180 [i64 s.stream,i64 s.mid,zbm true])),(1001,.dead),(1002,.dead),(1003,.dead),(1004,.dead)]),fun x=>(n+1-x.1.zbf[k]?.getD 0).toNat,⟨r,⟨f1,f2,f3,hkl,by rw [hg];omega,by rw [hg];omega⟩,by rw [hg];omega,hT⟩,?_,?_⟩
 . exact (zdf (pK5 ((900,some 1001)::(901,some 1002)::(902,some 1003)::(903,some 1004)::[(3,some 3)])))
 rintro ⟨x,⟨h1,h2,h3,h4,h5,h6⟩,h7,he⟩;(conv=>whnf);refine sO ?_;refine zdw k zz0 h4 (zw ?_);refine sD ?_;have hx:x.zbf[k]?.getD 0=x.zbf[k]:=by simp [h4]
 rw [hx] at h5 h6 h7;by_cases c3:x.zbf[k]<=n
 . rw [xas h4 (by omega)] at he
   obtain ⟨k1,k2,k3,k4,k5,k6,k7⟩:=znq x k;rw [hx] at k1;have hpas:pass x k=yez (if (dlv x k (tag x.zbf[k]) true).2 then (dlv x k (tag x.zbf[k]) true).1 else zma (dlv x k (tag x.zbf[k]) true).1 k (tag x.zbf[k]) true) k:=by rw [pass,hx]
   obtain ⟨d1,d2,d3,d4,d5,d6,d7⟩:=zkl x k (tag x.zbf[k]) true;have hgt:(pass x k).zbf[k]?.getD 0=x.zbf[k]+1:=by rw [k1,zy17 h4];rfl
   have next:xlw (pass x k) k/\(pass x k).zbf[k]?.getD 0<=2 ^ 58/\turns (ybd (pass x k) k n) k=T:=⟨⟨by omega,by omega,by omega,by rw [k1,zy25];exact h4,by rw [hgt];omega,by rw [hgt];omega⟩,by rw [hgt];omega,he⟩
   have less:(n+1-(pass x k).zbf[k]?.getD 0).toNat<(n+1-x.zbf[k]?.getD 0).toNat:=by rw [hgt,hx];omega
   refine sT ?_;refine sO ?_;refine zdw k zz0 h4 (zw ?_)
   (refine cL ?_;refine dL (zdd _) ?_)
   refine sD ?_
   (refine zac [] [(1000,1000),(1001,900),(1002,901),(1003,902),(1004,903)] [(0,910),(1,911),(2,912),(3,913)] ?_;(conv=>whnf);refine dG (zmx x s.stream (tag x.zbf[k]) true zz0 zz0 zz0) ?_)
   rw [<- hk] at hpas d1 d2 d3 d4 d5 d6 d7;have hbm:∀ (y:Receiver) (z:Int),y.zbf=x.zbf->z=x.zbf[k]+1->zad.live (.row 3 1 ((yez y k).zbf.map fun n=>[pi n]))=zad.live (.row 3 1 ((y.zbf.map fun n=>[pi n]).set s.stream.toNat [pi z])):=fun y z hy hz=>by
    refine zar ?_;show (y.zbf.set k (y.zbf[k]?.getD 0+1)).map _=_;rw [hy,hx,zy110,hz,show s.stream.toNat=k by omega]
   generalize dlv x s.stream (tag x.zbf[k]) true=D at *
   obtain ⟨y,ok⟩:=D;dsimp only at d1 d2 d3 d4 d5 d6 d7 hpas;have h4y:k<y.zbf.length:=by rw [d1];exact h4
   have hyk:y.zbf[k]=x.zbf[k]:=by simp only [d1]
   cases ok with
   | true =>
    have hpas:pass x k=yez y k:=hpas;(conv=>whnf)
    try refine sG ?_
    refine sO ?_;refine zdw k zz0 h4y (zw ?_);rw [hyk];refine sF ?_;refine sO ?_;refine zdw k zz0 h4y (zw ?_);refine sD ?_;rw [hpas] at next less;refine ⟨⟨_,next⟩,(zbx (pK5 ((3,some 3)::[(900,some 910),(901,some 911),(902,some 912),(903,some 913)])) (by repeat' (first | exact z0 | refine z1 ?_ | refine ⟨?_,?_⟩ | ((exact hbm y (x.zbf[k]+1) d1 rfl)) | ((exact (hbm y (x.zbf[k]+1) d1 rfl).symm)) | exact z2))),less⟩
   | false =>
    have hpas:pass x k=yez (zma y s.stream (tag x.zbf[k]) true) k:=by rw [hpas,hk];rfl
    conv=>whnf
    try refine sG ?_
    (refine zac [] [(1000,1000),(1001,910),(1002,911),(1003,912),(1004,913)] [(0,920),(1,921),(2,922),(3,923)] ?_;(conv=>whnf);refine dG (zxw y s.stream (tag x.zbf[k]) true zz0) ?_)
    have e1:(zma y s.stream (tag x.zbf[k]) true).zbf=x.zbf:=d1;generalize zma y s.stream (tag x.zbf[k]) true=w at hpas e1 ⊢;have h4w:k<w.zbf.length:=by rw [e1];exact h4
    have hwk:w.zbf[k]=x.zbf[k]:=by simp only [e1]
    refine sO ?_;refine zdw k zz0 h4w (zw ?_);rw [hwk];refine sF ?_;refine sO ?_;refine zdw k zz0 h4w (zw ?_);refine sD ?_;rw [hpas] at next less;refine ⟨⟨_,next⟩,(zbx (pK5 ((3,some 3)::[(900,some 920),(901,some 921),(902,some 922),(903,some 923)])) (by repeat' (first | exact z0 | refine z1 ?_ | refine ⟨?_,?_⟩ | ((exact hbm w (x.zbf[k]+1) e1 rfl)) | ((exact (hbm w (x.zbf[k]+1) e1 rfl).symm)) | exact z2))),less⟩
 . rw [xes (by omega)] at he
   subst he;refine sN ?_
   (refine zac [] [(1000,1000),(1001,900),(1002,901),(1003,902),(1004,903)] [(0,910),(1,911),(2,912),(3,913)] ?_;(conv=>whnf);refine dG (zyd x k _ hk ⟨h1,h2,h3,h4,by omega,by omega⟩) ?_ ⟨rfl,rfl,rfl,⟨zz1,⟨zz1,⟨zz1,⟨zz1,⟨zz1,trivial⟩⟩⟩⟩⟩,⟨⟨rfl,rfl⟩,⟨⟨rfl,rfl⟩,⟨⟨rfl,rfl⟩,⟨⟨rfl,rfl⟩,trivial⟩⟩⟩⟩,rfl,rfl,rfl⟩)
   exact yy57
end Rcv
namespace Rcv
open Srt Jn Ser
theorem yhb {n:Nat}:∀ {S:List zav} {i:Nat} {b:List UInt8},zji n i S=some b->b.length=tot S
 | [],_,_,h=>by rw [zji] at h;cases h;rfl
 | p::r,i,b,h=>by
  rw [zji] at h;split at h
  . obtain ⟨d,hd,rfl⟩:=zy32.1 h
    rw [zy4,zfl,yhb hd]
  . cases h
theorem xct {l:List zav} {b:List UInt8} (h:join l=some b):b.length=tot l:=by
 unfold join at h;split at h
 . cases h
 . rw [yhb h,yra zlv]
def yuj (l:List zcr):Nat:=(l.map fun a=>a.data.length).sum
theorem ypk (a b:List zcr):yuj (a++b)=yuj a+yuj b:=by simp [yuj]
theorem xdb {l:List zcr} {a:zcr} (h:a∈l):a.data.length<=yuj l:=by
 obtain ⟨x,y,rfl⟩:=List.append_of_mem h;rw [ypk];simp [yuj];omega
structure zuc (r r':Receiver) (d:Nat):Prop where
 len:r'.zbf.length=r.zbf.length
 cum:r'.cum=r.cum
 zaq:r'.zaq=r.zaq
 config:r'.config=r.config
 pieces:r'.pieces.length<=r.pieces.length
 bytes:tot r'.pieces<=tot r.pieces
 log:r'.log.length+r'.pieces.length<=r.log.length+r.pieces.length
 mass:yuj r'.log+tot r'.pieces<=yuj r.log+tot r.pieces
 pre:r.log <+: r'.log
 lo:∀ L:Int,(∀ t∈r.zbf,L<t)->∀ t∈r'.zbf,L<t
 hi:∀ T:Int,(∀ t∈r.zbf,t+r.pieces.length<=T)->∀ t∈r'.zbf,t+r'.pieces.length<=T+d
theorem zuc.refl (r:Receiver):zuc r r 0:=⟨rfl,rfl,rfl,rfl,zy19 _,zy19 _,zy19 _,zy19 _,zy169 _,fun _ h=>h,fun T h t ht=>by have:=h t ht;omega⟩
theorem zuc.trans {a b c:Receiver} {d e:Nat} (h:zuc a b d) (k:zuc b c e):zuc a c (d+e):=by
 obtain ⟨a1,a2,a3,a4,a5,a6,a7,a8,a9,a10,a11⟩:=h;obtain ⟨b1,b2,b3,b4,b5,b6,b7,b8,b9,b10,b11⟩:=k;exact ⟨b1.trans a1,b2.trans a2,b3.trans a3,b4.trans a4,by omega,by omega,by omega,by omega,a9.trans b9,fun L h=>b10 L (a10 L h),fun T h t ht=>by have:=b11 (T+d) (a11 T h) t ht;omega⟩
theorem zuc.more {a b:Receiver} {d e:Nat} (h:zuc a b d) (k:d<=e):zuc a b e:={h with hi:=fun T ht t hm=>by have:=h.hi T ht t hm;omega}
theorem xdy {l:List zav} (f:zav->Bool):(l.filter fun p=>!f p).length+(l.filter f).length=l.length:=by
 induction l with
 | nil=>rfl
 | cons p l ih =>
  rw [zy64,zy64];cases f p<;>simp<;>omega
theorem ypy {l:List zav} (f:zav->Bool):tot (l.filter fun p=>!f p)+tot (l.filter f)=tot l:=by
 induction l with
 | nil=>rfl
 | cons p l ih =>
  rw [zy64,zy64];cases f p<;>simp [zfl]<;>omega
theorem yfm (r:Receiver) (s m:Int) (o:Bool):zuc r (zma r s m o) 0:=by
 have h1:=xdy (l:=r.pieces) (zdg s m o);have h2:=ypy (l:=r.pieces) (zdg s m o);refine ⟨rfl,rfl,rfl,rfl,?_,?_,?_,?_,zy169 _,fun _ h=>h,fun T h t ht=>?_⟩
 . show (r.pieces.filter fun p=>!zdg s m o p).length<=_;omega
 . show tot (r.pieces.filter fun p=>!zdg s m o p)<=_;omega
 . show _+(r.pieces.filter fun p=>!zdg s m o p).length<=_;show r.log.length+_<=_;omega
 . show _+tot (r.pieces.filter fun p=>!zdg s m o p)<=_;show yuj r.log+_<=_;omega
 . have:=h t ht
   show t+((r.pieces.filter fun p=>!zdg s m o p).length:Int)<=_;omega
theorem ybz (r:Receiver) (s m:Int) (o:Bool):zuc r (dlv r s m o).1 0:=by
 obtain ⟨a1,a2,a3,a4,a5,a6,a7⟩:=zkl r s m o;refine ⟨by rw [a1],a2,a3,a4,a5,a6,a7,?_,?_,fun L h=>by rw [a1];exact h,fun T h t ht=>by rw [a1] at ht;have:=h t ht;omega⟩
 . unfold dlv
   split
   . exact zy19 _
   . rename_i b hj
     have h1:=xct hj;have h2:=ypy (l:=r.pieces) (zdg s m o);show yuj (r.log++[_])+tot (r.pieces.filter fun p=>!zdg s m o p)<=_;rw [ypk];simp only [yuj,zy27,zy87,zy103,zy158] at *
     omega
 . unfold dlv
   split
   . exact zy169 _
   . exact List.prefix_append _ _
theorem ymc {l:List Int} {k:Nat} {t:Int} (h:t∈l.set k (l[k]?.getD 0+1)):t∈l\/(t-1∈l):=by
 by_cases hk:k<l.length
 . rcases zy45 h with h | h
   . exact .inl h
   . right
     rw [h,zy2 hk];simp only [zy145];rw [show l[k]+1-1=l[k] by omega];exact zy81 hk
 . rw [List.set_eq_of_length_le (by omega)] at h
   exact .inl h
theorem zvo (r:Receiver) (k:Nat):zuc r (yez r k) 1:=by
 refine ⟨by show (r.zbf.set k _).length=_;rw [zy25],rfl,rfl,rfl,zy19 _,zy19 _,zy19 _,zy19 _,zy169 _,fun L h t ht=>?_,fun T h t ht=>?_⟩
 . rcases ymc ht with h1 | h1
   . exact h t h1
   . have:=h _ h1;omega
 . show t+(r.pieces.length:Int)<=_
   rcases ymc ht with h1 | h1
   . have:=h t h1;omega
   . have:=h _ h1;omega
theorem yrn {r x:Receiver} (k:Nat) (h:zuc r x 0) (hl:x.pieces.length<r.pieces.length) (ht:x.zbf=r.zbf):zuc r (yez x k) 0:=by
 have h1:=h.trans (zvo x k);refine {h1 with hi:=fun T hT t htm=>?_};show t+(x.pieces.length:Int)<=_;rcases ymc htm with h2 | h2
 . rw [ht] at h2;have:=hT t h2;omega
 . rw [ht] at h2;have:=hT _ h2;omega
theorem zsp:∀ (n:Nat) (r:Receiver) (k:Nat),r.pieces.length<n->zuc r (turns r k) 0
 | 0,r,k,h=>by omega
 | n+1,r,k,h=>by
  rw [zis];have h1:=ybz r k (tag (r.zbf[k]?.getD 0)) true;split
  . rename_i hd
    have h2:=zpp hd;have h3:=yrn k h1 h2 (zkl r k (tag (r.zbf[k]?.getD 0)) true).1;exact h3.trans (zsp n _ k (by show (dlv r k (tag (r.zbf[k]?.getD 0)) true).1.pieces.length<n;omega))
  . exact h1
theorem yyq (r:Receiver) (k:Nat):zuc r (pass r k) 1:=by
 have h1:=ybz r k (tag (r.zbf[k]?.getD 0)) true;unfold pass;split
 . exact h1.trans (zvo _ _)
 . exact (h1.trans (yfm _ _ _ _)).trans (zvo _ _)
theorem zxe:∀ (n:Nat) (r:Receiver) (k:Nat),zuc r (zmu n r k) n
 | 0,r,_=>zuc.refl r
 | n+1,r,k=>((yyq r k).trans (zxe n _ k)).more zz0
theorem yiy (r:Receiver) (s:zgg) (h:∀ t∈r.zbf,-(2 ^ 60)<t/\t<2 ^ 60):zuc r (zkz r s) 32769:=by
 unfold zkz;split
 . exact (zuc.refl r).more zz0
 split
 . exact (yfm _ _ _ _).more zz0
 rename_i c _;have hk:s.stream.toNat<r.zbf.length:=by omega
 have hb:=h _ (zy81 hk);have hg:r.zbf[s.stream.toNat]?.getD 0=r.zbf[s.stream.toNat]:=by simp [hk]
 obtain ⟨n1,n2,n3⟩:=zms (a:=r.zbf[s.stream.toNat]) (t:=s.mid) zz0 zz0;have h1:=zxe (zcw r.zbf[s.stream.toNat] s.mid+1-r.zbf[s.stream.toNat]).toNat r s.stream.toNat;refine (zuc.trans (b:=ybd r s.stream.toNat (zcw (r.zbf[s.stream.toNat]?.getD 0) s.mid)) (d:=32769) (e:=0) ?_ (zsp _ _ _ (zy170 _)));unfold ybd;rw [hg];exact h1.more zz0
theorem yfw:∀ (l:List zgg) (r:Receiver) (L T:Int),-(2 ^ 59)<=L->T+l.length*32769<2 ^ 59->(∀ t∈r.zbf,L<t)->(∀ t∈r.zbf,t+r.pieces.length<=T)->zuc r (l.foldl zkz r) (l.length*32769)
 | [],r,_,_,_,_,_,_=>(zuc.refl r).more zz0
 | s::l,r,L,T,h1,h2,h3,h4=>by
  rw [zy8] at h2;have g:=yiy r s fun t ht=>by have:=h3 t ht;have:=h4 t ht;omega
  have g2:=yfw l (zkz r s) L (T+32769) h1 zz0 (g.lo L h3) (g.hi T h4);rw [zy35,zy8];exact (g.trans g2).more zz0
def forward (r:Receiver) (c:Chunk):Receiver :=
 if ¬ c.kind=3\/zcw r.cum c.tag<=r.cum then r else c.zbv.foldl zkz {r with cum:=(up r.zaq (zcw r.cum c.tag)).1,zaq:=(up r.zaq (zcw r.cum c.tag)).2}
structure zng (N:Nat) (r:Receiver):Prop where
 log:r.log.length+r.pieces.length<=N
 mass:yuj r.log+tot r.pieces<=N
 many:r.zaq.length<=N
 zfu:zfu r.zaq
 zew:∀ s∈r.zaq,r.cum+1<s.lo
 his:∀ s∈r.zaq,s.hi<=r.cum+32768
 cum1:-1<=r.cum
 cum2:r.cum<=100000+32768*N
 lo:∀ t∈r.zbf,-1<t
 hi:∀ t∈r.zbf,t+r.pieces.length<=32769*N
 streams:r.zbf.length<2 ^ 30
theorem zng.more {N M:Nat} {r:Receiver} (h:zng N r) (k:N<=M):zng M r :=
 ⟨by have:=h.log;omega,by have:=h.mass;omega,by have:=h.many;omega,h.zfu,h.zew,h.his,h.cum1,by have:=h.cum2;omega,h.lo,fun t ht=>by have:=h.hi t ht;omega,h.streams⟩
theorem zng.fit {N:Nat} {r:Receiver} (h:zng N r) (hN:N<=2000000):Fit r:=by
 obtain ⟨h1,h2,h3,h4,h5,h6,h7,h8,h9,h10,h11⟩:=h;exact ⟨by omega,by omega,by omega,by omega,by omega,fun a ha=>by have:=xdb ha;omega⟩
theorem zng.dfit {N:Nat} {r:Receiver} (h:zng N r) (hN:N<=2000000) {c:Chunk} (hc:c.data.length<=2 ^ 20):xpq r c:=by
 have hf:=h.fit hN;obtain ⟨h1,h2,h3,h4,h5,h6,h7,h8,h9,h10,h11⟩:=h;exact ⟨hf,h4,fun s hs=>by have:=h6 s hs;omega,by omega,by omega,fun t ht=>by have:=h9 t ht;have:=h10 t ht;omega,by omega,by omega,by omega⟩
theorem znc:∀ {l:List Span} {n:Int} (_:Ser.zfu l),n<=(up l n).1/\(up l n).2.length<=l.length/\Ser.zfu (up l n).2/\(∀ s∈(up l n).2,s∈l)/\(∀ s∈(up l n).2,(up l n).1+1<s.lo)/\((up l n).1=n\/∃ s∈l,(up l n).1=s.hi)
 | [],n,_=>by simp [up,Ser.zfu]
 | s::r,n,h=>by
  rw [up];split
  . rename_i c
    have ih:=znc (l:=r) (n:=if s.hi>n then s.hi else n) h.2.2.2.2;have h1:n<=(if s.hi>n then s.hi else n):=by split<;>omega
    have h2:(if s.hi>n then s.hi else n)=n\/(if s.hi>n then s.hi else n)=s.hi:=by split<;>simp
    generalize (if s.hi>n then s.hi else n)=n' at *
    obtain ⟨i1,i2,i3,i4,i5,i6⟩:=ih;refine ⟨by omega,by simp;omega,i3,fun t ht=>by simp [i4 t ht],i5,?_⟩;rcases i6 with i6 | ⟨t,ht,e⟩
    . rcases h2 with h2 | h2
      . exact .inl (i6.trans h2)
      . exact .inr ⟨s,by simp,i6.trans h2⟩
    . exact .inr ⟨t,by simp [ht],e⟩
  . rename_i c
    refine ⟨zy80 _,zy19 _,h,fun t ht=>ht,fun t ht=>?_,.inl rfl⟩;have h0:=h.1;rcases zy18.1 ht with rfl | ht
    . omega
    . have:=h.2.2.2.1 t ht;omega
theorem xnu:∀ {l:List Span} {n m:Int} (_:Ser.zfu l),has l m=true->m<=(up l n).1\/has (up l n).2 m=true
 | [],n,m,_,h=>by simp [has] at h
 | s::r,n,m,h,hm=>by
  rw [up];split
  . rename_i c
    rw [zlj,zy74] at hm;have u:=(znc (n:=if s.hi>n then s.hi else n) h.2.2.2.2).1;have h1:s.hi<=(if s.hi>n then s.hi else n):=by split<;>omega
    rcases hm with hm | hm
    . left
      have:m<=s.hi:=by simp at hm;exact hm.2
      omega
    . exact xnu h.2.2.2.2 hm
  . exact .inr hm
theorem zng.goes {N d e:Nat} {r r':Receiver} (h:zng N r) (g:zuc r r' d) (hd:d<=32769*e):zng (N+e) r':=by
 obtain ⟨h1,h2,h3,h4,h5,h6,h7,h8,h9,h10,h11⟩:=h;obtain ⟨a1,a2,a3,a4,a5,a6,a7,a8,a9,a10,a11⟩:=g;exact ⟨by omega,by omega,by rw [a3];omega,by rw [a3];exact h4,by rw [a2,a3];exact h5,fun s hs=>by rw [a3] at hs;have:=h6 s hs;omega,by omega,by omega,a10 _ h9,fun t ht=>by have:=a11 _ h10 t ht;omega,by omega⟩
theorem zng.put {N:Nat} {r:Receiver} (h:zng N r) (hN:N<=2 ^ 21) {c:Chunk} (ht:ybj r c (zcw r.cum c.tag)):zng (N+(c.data.length+1)) (put r c):=by
 obtain ⟨h1,h2,h3,h4,h5,h6,h7,h8,h9,h10,h11⟩:=h;obtain ⟨n1,n2,n3⟩:=zms (a:=r.cum) (t:=c.tag) zz0 zz0;have ha:=ht.zew;unfold Rcv.put;generalize zcw r.cum c.tag=n at *
 have hadd:=yuo (n:=n) (M:=r.cum+32768) h4 zz0 zz0 (fun s hs=>by have:=h6 s hs;omega) zz0;have hal:=ymv r.zaq n;obtain ⟨u1,u2,u3,u4,u5,u6⟩:=znc (n:=r.cum) (ybm h4 (n:=n) zz0 zz0).1;refine ⟨?_,?_,?_,u3,u5,fun s hs=>?_,?_,?_,h9,?_,h11⟩
 . simp only [zy4,zy48];omega
 . dsimp only
   rw [zyh,zfl];have:tot []=0:=rfl;dsimp only;omega
 . dsimp only;omega
 . have:=hadd s (u4 s hs);dsimp only;omega
 . dsimp only;omega
 . dsimp only
   rcases u6 with u6 | ⟨s,hs,u6⟩
   . omega
   . have:=hadd s hs;omega
 . intro t htt
   have:=h10 t htt;simp only [zy4,zy48];omega
theorem xbm {N:Nat} {r:Receiver} (h:zng N r) (hN:N<=2 ^ 21) (c:Chunk):zng (N+(c.data.length+1)) (data r c):=by
 unfold data;split
 . rename_i ht
   have hp:=h.put hN ht;split
   . exact hp.goes (e:=0) (zsp _ _ _ (zy170 _)) (zy92 _)
   . exact hp.goes (e:=0) (ybz _ _ _ _) (zy92 _)
 . exact h.more zz0
theorem ykr {N:Nat} {r:Receiver} (h:zng N r) (hN:N<=2 ^ 21) (c:Chunk) (hc:c.zbv.length<=2 ^ 21):zng (N+(c.zbv.length+1)) (forward r c):=by
 unfold forward;split
 . exact h.more zz0
 rename_i ht;obtain ⟨h1,h2,h3,h4,h5,h6,h7,h8,h9,h10,h11⟩:=h;obtain ⟨n1,n2,n3⟩:=zms (a:=r.cum) (t:=c.tag) zz0 zz0;have ha:r.cum<zcw r.cum c.tag:=by
  apply Classical.byContradiction;intro hc;exact ht (.inr zz0)
 generalize zcw r.cum c.tag=n at *
 obtain ⟨u1,u2,u3,u4,u5,u6⟩:=znc (n:=n) h4;have hw:zng (N+1) {r with cum:=(up r.zaq n).1,zaq:=(up r.zaq n).2}:=by
  exact yy33
 have g:=yfw c.zbv {r with cum:=(up r.zaq n).1,zaq:=(up r.zaq n).2} (-1) (32769*N) zz0 zz0 h9 h10;exact (hw.goes (e:=c.zbv.length) g zz0).more zz0
theorem zhd {a t n:Int} (h1:-(2 ^ 61)<=a) (h2:a<=2 ^ 61) (h3:a-32767<=n) (h4:n<=a+32768) (h5:tag n=tag t):zcw a t=n:=by
 obtain ⟨n1,n2,n3⟩:=zms (a:=a) (t:=t) h1 h2;rw [<- h5] at n3;unfold tag at n3;omega
end Rcv
namespace Rcv
open Srt Jn Ser
theorem zng.skip {N:Nat} {r:Receiver} (h:zng N r) (hN:N<=2 ^ 23) (s:zgg):zng (N+1) (zkz r s) :=
 h.goes (e:=1) (yiy r s fun t ht=>by have:=h.lo t ht;have:=h.hi t ht;omega) zz0
theorem zng.sfit {N:Nat} {r:Receiver} (h:zng N r) (hN:N<2 ^ 22):xrf r:=by
 obtain ⟨h1,h2,h3,h4,h5,h6,h7,h8,h9,h10,h11⟩:=h;exact ⟨by omega,by omega,by omega,fun t ht=>by have:=h9 t ht;omega,fun t ht=>by have:=h10 t ht;omega⟩
def xbd (r:Receiver) (n:Int):Receiver:={r with cum:=(up r.zaq n).1,zaq:=(up r.zaq n).2}
theorem zng.up {N:Nat} {r:Receiver} (h:zng N r) (_:N<=2 ^ 22) {n:Int} (n1:r.cum<n) (n2:n<=r.cum+32768):zng (N+1) (xbd r n):=by
 obtain ⟨h1,h2,h3,h4,h5,h6,h7,h8,h9,h10,h11⟩:=h;obtain ⟨u1,u2,u3,u4,u5,u6⟩:=znc (n:=n) h4;unfold xbd;exact yy33
theorem yjd (r:Receiver) (c:Chunk) {N:Nat} (h:zng N r) (hN:N<=2000000) (hc:c.zbv.length<=2 ^ 20) :
 zao Tryz.prog 153 [r.hv,c.hv] zaf (xpl (forward r c) 0 1 2 3) (lk .free (xed (forward r c) 0 1 2 3 [])):=by
 have hfit:=h.fit hN;have h6:=h.his;have h7:=h.cum1;have h8:=h.cum2;obtain ⟨n1,n2,n3⟩:=zms (a:=r.cum) (t:=c.tag) zz0 zz0;generalize hD:forward r c=D;refine zan mixed Tryz.func153 zz5 [] (fun _=>.inl rfl) ?_;(conv=>whnf)
 (refine zat [(0,910),(1,911),(2,912),(3,913)]  ?_;(conv=>whnf);refine dO (zdm r hfit) ?_)
 (refine cL ?_;refine dL (zlb r.cum c.tag) ?_)
 by_cases c1:c.kind=3
 case neg =>
  obtain rfl:r=D:=by rw [<- hD,forward,zy1 (.inl c1)]
  refine zai zz52 ?_;conv=>whnf
  exact yy73
 refine zah (by simp [c1]) (zw ?_);by_cases c2:zcw r.cum c.tag<=r.cum
 . obtain rfl:r=D:=by rw [<- hD,forward,zy1 (.inr c2)]
   refine zai zz47 ?_;conv=>whnf
   exact yy73
 refine zah zz47 (zw ?_)
 try refine sG ?_
 have hw:=h.up zz0 (n:=zcw r.cum c.tag) zz0 zz0;have e:c.zbv.foldl zkz (xbd r (zcw r.cum c.tag))=D:=by rw [<- hD,forward,zy0 (by simp [c1];omega)];rfl
 (refine zat [(0,37)]  ?_;(conv=>whnf);refine dO (xai r.zaq (zcw r.cum c.tag) (fun s hs=>by have:=h6 s hs;omega) (by have:=hfit.zaq;omega) zz0 zz0) ?_)
 refine ⟨{x:Receiver×List zgg×List zgg // c.zbv=x.2.1++x.2.2/\zng (N+1+x.2.1.length) x.1/\x.2.2.foldl zkz x.1=D},fun | ⟨(x,a,b),_⟩=>hs 61 [(4,.ptr 4 0),(5,.ptr 12 0),(47,.p (.sl 3 (c.zbv.map zgg.row))),(48,i64 c.zbv.length),(49,i64 a.length)] ((4,.live (.cells 37 xlk))::(12,.live (.cells 225 (xee x (.own 900) (.own 901) (.own 902) (.own 903))))::xed x 900 901 902 903 []),fun x=>x.1.2.2.length,⟨(xbd r (zcw r.cum c.tag),[],c.zbv),rfl,hw,e⟩,?_,?_⟩
 . exact (zem [(4,some 4),(12,some 12),(900,some 37),(901,some 911),(902,some 912),(903,some 913)])
 rintro ⟨⟨x,a,b⟩,h1,h2,h3⟩;dsimp only at h1 h2 h3;(conv=>whnf);cases b with
 | cons s b =>
  have hz:=zch h1;refine sT ?_;refine zal h1 rfl (zw ?_)
  (refine zac [] [(1000,12),(1001,900),(1002,901),(1003,902),(1004,903)] [(0,910),(1,911),(2,912),(3,913)] ?_;(conv=>whnf);refine dG (zyc x s (h2.sfit zz0)) ?_)
  refine sF ?_;exact ⟨⟨(zkz x s,a++[s],b),zas h1,by have:=h2.skip zz0 s;simpa [zy104] using this,h3⟩,(zem [(4,some 4),(12,some 12),(900,some 910),(901,some 911),(902,some 912),(903,some 913)]),by simp⟩
 | nil =>
  have hz:=zde h1;have h3:x=D:=h3;subst h3;refine sN ?_
  (exact zcc [(0,some 900),(1,some 901),(2,some 902),(3,some 903)])
end Rcv
namespace Rcv
open Srt Jn Ser
theorem ztb {r:Receiver} {s m:Int} {o:Bool} (h:(dlv r s m o).2=false):(dlv r s m o).1=r:=by
 unfold dlv at h ⊢;split
 . rfl
 . rename_i b hj;rw [hj] at h;cases h
end Rcv
namespace Rcv
open Srt Jn Ser
end Rcv
namespace Rcv
open Srt Jn Ser
end Rcv
namespace Rcv
open Srt Jn Ser
end Rcv
namespace Rcv
open Srt Jn Ser
def wt (c:Chunk):Nat:=c.data.length+c.zbv.length+1
def wts (l:List Chunk):Nat:=(l.map wt).sum
theorem xau (a b:List Chunk):wts (a++b)=wts a+wts b:=by simp [wts]
theorem zoc (c:Chunk) (b:List Chunk):wts (c::b)=wt c+wts b:=by simp [wts]
end Rcv
namespace Rcv
open Srt Jn Ser
theorem zng.cumB {N:Nat} {r:Receiver} (h:zng N r) (hN:N<=2000000):-(2 ^ 60)<=r.cum/\r.cum<=2 ^ 60:=by
 have:=h.cum1;have:=h.cum2;omega
theorem zng.spansB {N:Nat} {r:Receiver} (h:zng N r) (hN:N<=2000000):∀ s∈r.zaq,-(2 ^ 61)<=s.lo/\s.lo<=2 ^ 61/\-(2 ^ 61)<=s.hi/\s.hi<=2 ^ 61:=fun s hs=>by
 have h1:=h.zew s hs;have h2:=h.his s hs;have h3:=h.cum1;have h4:=h.cum2;have h5:=(zjv h.zfu s hs).1;omega
end Rcv
namespace Rcv
open Srt Jn Ser
theorem yzy (c:Config) (h1:-9223372036854775808<c.first) (h2:c.first<=9223372036854775807) (h3:c.streams<=1099511627776):zao Tryz.prog 110 [c.hv] zaf (yag c).hv zaf:=by
 refine zcl Tryz.func110 (zqs c h1 h2 h3) ?_;(conv=>whnf)
 rfl
theorem yti (r:Receiver) (c:Chunk) (hf:xpq r c):zao Tryz.prog 152 [r.hv,c.hv] zaf (data r c).hv zaf:=by
 refine zcl Tryz.func152 (yzs r c hf) ?_;generalize data r c=d;(conv=>whnf)
 rfl
theorem yeg (r:Receiver) (c:Chunk) {N:Nat} (h:zng N r) (hN:N<=2000000) (hc:c.zbv.length<=2 ^ 20):zao Tryz.prog 153 [r.hv,c.hv] zaf (forward r c).hv zaf:=by
 refine zcl Tryz.func153 (yjd r c h hN hc) ?_;generalize forward r c=d;(conv=>whnf)
 rfl
theorem yts (r:Receiver) (h1:r.zaq.length<2 ^ 40) (h2:r.pieces.length<2 ^ 40) (h3:tot r.pieces<2 ^ 60) (hc:-(2 ^ 60)<=r.cum) (hc2:r.cum<=2 ^ 60) (hsp:∀ s∈r.zaq,-(2 ^ 61)<=s.lo/\s.lo<=2 ^ 61/\-(2 ^ 61)<=s.hi/\s.hi<=2 ^ 61) :
 zao Tryz.prog 154 [r.hv] zaf (zle r).hv zaf:=by
 refine zcl Tryz.func154 (xab r h1 h2 h3 hc hc2 hsp) ?_;(conv=>whnf)
 rfl
theorem zyb (r:Receiver) (hr:Fit r):zao Tryz.prog 111 [r.hv] zaf r.hv zaf:=by
 refine zcl Tryz.func111 (zdm r hr) ?_;(conv=>whnf)
 rfl
def xrg:Config:=⟨2,4,60,1,1,5,7⟩
def a8:Chunk:=⟨1,8,0,1,0,true,true,[98],[],0,[]⟩
def a7:Chunk:=⟨1,7,0,0,0,true,true,[97],[],0,[]⟩
def r1:Receiver:=⟨xrg,6,[⟨8,8⟩],[⟨8,a8⟩],[0,0],[]⟩
def r2:Receiver:=⟨xrg,8,[],[],[2,0],[⟨0,0,true,[97]⟩,⟨0,1,true,[98]⟩]⟩
end Rcv
namespace Ln
open Ser
def xge (w:List zba) (p:zba):List zba:=if w.length<40 then w++[p] else w
def zrd (w ps:List zba):List zba:=ps.foldl xge w
def zgz (back:Bool) (x:zdi×Bool) (c:Chunk):zdi×Bool :=
 if back then ({x.1 with sender:=Snd.zjo x.1.sender c},x.2) else
 if c.kind=1 then ({x.1 with receiver:=Rcv.data x.1.receiver c},true) else
 if c.kind=3 then ({x.1 with receiver:=Rcv.forward x.1.receiver c},true) else x
def told (path:Int) (l:zdi):zdi:=if (Pck.zcu [Rcv.zle l.receiver] 120).2=0 then {l with way:=zrd l.way [⟨path,true,(Pck.zcu [Rcv.zle l.receiver] 120).1⟩]} else l
def zik (l:zdi) (p:zba):zdi×Bool:=(Pck.zfe p.bytes).1.foldl (zgz p.back) (l,false)
def zfm (l:zdi) (p:zba):zdi :=
 if (Pck.zfe p.bytes).2≠0 then l else if (zik l p).2 then told p.path (zik l p).1 else (zik l p).1
def emit (l:zdi):zdi:={l with sender:=(Snd.zfc l.sender).1,way:=zrd l.way (Snd.zfc l.sender).2}
def doS (l:zdi) (x:Step):zdi×Answer :=
 if x.kind=1 then (if Snd.zeu l.sender x.message=0 then (emit {l with sender:=Snd.zgb l.sender x.message},⟨0,l.sender.fates.length⟩) else (l,⟨Snd.zeu l.sender x.message,0⟩)) else
 if x.kind=2\/x.kind=3\/x.kind=4 then (if x.n<0 then (l,⟨6,0⟩) else match l.way[x.n.toNat]? with
  | none=>(l,⟨6,0⟩)
  | some p=>if x.kind=4 then (emit {l with way:=zrd l.way [p]},⟨0,0⟩) else
   (emit (if x.kind=2 then zfm {l with way:=l.way.eraseIdx x.n.toNat} p else {l with way:=l.way.eraseIdx x.n.toNat}),⟨0,0⟩)) else
 if x.kind=5 then (emit {l with sender:=Snd.tick l.sender},⟨0,0⟩) else (l,⟨1,0⟩)
def zic (c:Config):zdi:=⟨Snd.zrx c,Rcv.yag c,[]⟩
def zfq:zdi->List Step->zdi×List Answer
 | l,[]=>(l,[])
 | l,x::r=>((zfq (doS l x).1 r).1,(doS l x).2::(zfq (doS l x).1 r).2)
theorem zqf:∀ (a:List Step) (l:zdi) (b:List Step),zfq l (a++b)=((zfq (zfq l a).1 b).1,(zfq l a).2++(zfq (zfq l a).1 b).2)
 | [],l,b=>rfl
 | x::a,l,b=>by
  have h:=zqf a (doS l x).1 b;rw [zy43,zfq,h];rfl
theorem ydm:∀ (a:List Step) (l:zdi),(zfq l a).2.length=a.length
 | [],_=>rfl
 | x::a,l=>by rw [zfq,zy8,ydm a];rfl
theorem yyx:∀ (ps w:List zba),w.length<=40->(zrd w ps).length<=40
 | [],w,h=>h
 | p::ps,w,h=>by
  unfold zrd;rw [zy35];refine yyx ps _ ?_;unfold xge;split
  . simp;omega
  . exact h
theorem ydq:∀ (ps w:List zba),∀ p∈zrd w ps,p∈w\/p∈ps
 | [],w,p,h=>.inl h
 | q::ps,w,p,h=>by
  unfold zrd at h;rw [zy35] at h;rcases ydq ps _ p h with h | h
  . unfold xge at h
    split at h
    . rcases zy10.1 h with h | h
      . exact .inl h
      . rw [zy7] at h;subst h;exact .inr zz3
    . exact .inl h
  . exact .inr (by simp [h])
theorem zsf (l:List Chunk) (most:Int) (h:0<=most):((Pck.zcu l most).1.length:Int)<=most:=by
 unfold Pck.zcu
 (repeat' split)<;>first | (simp;omega) | (dsimp only;omega)
theorem xhc (kind:Int) (b:List UInt8):(Chk.zey kind b).1.data.length+(Chk.zey kind b).1.zbv.length<=b.length/\(Chk.zey kind b).1.zaq.length<=b.length:=by
 have h1:=Chk.zmw (b.drop 2);have h2:=Chk.zls (b.drop 4);have h3:(b.drop 2).length<=b.length:=by simp
 have h4:(b.drop 4).length<=b.length:=by simp
 unfold Chk.zey
 (repeat' split)<;>constructor<;>first | (simp [Chk.no];done) | (dsimp only [Chk.no];simp;omega) | (dsimp only [Chk.no];omega)
theorem xdx {b:List UInt8} (h:(Chk.parse b).2.2=0):Rcv.wt (Chk.parse b).1+1<=(Chk.parse b).2.1.toNat/\(Chk.parse b).2.1.toNat<=b.length/\(Chk.parse b).1.zaq.length<=b.length:=by
 have h1:=xhc (b[0]?.getD 0).toNat ((b.drop 2).take (b[1]?.getD 0).toNat);have h2:((b.drop 2).take (b[1]?.getD 0).toNat).length<=(b[1]?.getD 0).toNat:=by simp;omega
 have h3:((b.drop 2).take (b[1]?.getD 0).toNat).length<=b.length:=by simp;omega
 unfold Chk.parse at h ⊢
 (repeat' split at h)<;>first | contradiction | skip
 . rename_i c1 c2 c3 c4
   rw [zy0 c1,zy0 c2,zy0 c3,zy0 c4];unfold Rcv.wt;dsimp only;refine ⟨by omega,by omega,by omega⟩
theorem yhz:∀ (f:Nat) (b:List UInt8),Rcv.wts (Pck.zgs f b).1<=b.length/\∀ c∈(Pck.zgs f b).1,c.zaq.length<=b.length/\Rcv.wt c<=b.length
 | 0,b=>by simp [Pck.zgs,Rcv.wts]
 | f+1,b=>by
  have ih:=yhz f (b.drop (Chk.parse b).2.1.toNat);unfold Pck.zgs
  (repeat' split)<;>first | (simp [Rcv.wts];done) | skip
  rename_i c1 c2 c3;have hp:=xdx (Decidable.not_not.1 c2);rw [zy37] at ih;refine ⟨?_,fun c hc=>?_⟩
  . dsimp only
    rw [Rcv.zoc];omega
  . rcases zy18.1 hc with rfl | hc
    . exact ⟨hp.2.2,by omega⟩
    . have:=ih.2 c hc;omega
theorem zxi (b:List UInt8):Rcv.wts (Pck.zfe b).1<=b.length/\∀ c∈(Pck.zfe b).1,c.zaq.length<=b.length/\Rcv.wt c<=b.length:=by
 unfold Pck.zfe;split
 . simp [Rcv.wts]
 . exact yhz _ _
theorem yym {most path:Int} {l:List Chunk} (h0:0<=most):∀ p∈Snd.zmd most path l,(p.bytes.length:Int)<=most/\p.back=false:=by
 intro p hp;unfold Snd.zmd at hp;split at hp
 . rw [zy7] at hp;subst hp;exact ⟨zsf _ _ h0,rfl⟩
 . simp at hp
theorem yhw {most path:Int} (h0:0<=most):∀ (n:Nat) (l:List Chunk),∀ p∈Snd.zgu most path n l,(p.bytes.length:Int)<=most/\p.back=false
 | 0,l,p,hp=>by simp [Snd.zgu] at hp
 | n+1,l,p,hp=>by
  unfold Snd.zgu at hp;split at hp
  . simp at hp
  . rcases zy10.1 hp with hp | hp
    . exact yym h0 p hp
    . exact yhw h0 n _ p hp
theorem ztk {most:Int} (h0:0<=most):∀ (ls:List (List Chunk)) (k:Nat),∀ p∈Snd.zbw most k ls,(p.bytes.length:Int)<=most/\p.back=false
 | [],k,p,hp=>by simp [Snd.zbw] at hp
 | l::ls,k,p,hp=>by
  unfold Snd.zbw at hp;rcases zy10.1 hp with hp | hp
  . exact yhw h0 _ _ p hp
  . exact ztk h0 ls _ p hp
structure LI (N M:Nat) (l:zdi):Prop where
 snd:Snd.SI N l.sender
 rcv:Rcv.zng M l.receiver
 small:M<=2000000
 way:l.way.length<=40
 bytes:∀ p∈l.way,p.bytes.length<=120
section
variable {N M:Nat} {l:zdi}
theorem LI.more (h:LI N M l) {M':Nat} (h1:M<=M') (h2:M'<=2000000):LI N M' l:=⟨h.snd,h.rcv.more h1,h2,h.way,h.bytes⟩
theorem ycp {back:Bool} {x:zdi×Bool} {c:Chunk} (h:LI N M x.1) (hM:M+Rcv.wt c<=2000000):LI N (M+Rcv.wt c) (zgz back x c).1:=by
 have hw:Rcv.wt c=c.data.length+c.zbv.length+1:=rfl;unfold zgz;split
 . exact ⟨Snd.ywl h.snd c,h.rcv.more zz0,hM,h.way,h.bytes⟩
 split
 . exact ⟨h.snd,(Rcv.xbm h.rcv zz0 c).more zz0,hM,h.way,h.bytes⟩
 split
 . exact ⟨h.snd,(Rcv.ykr h.rcv zz0 c zz0).more zz0,hM,h.way,h.bytes⟩
 . exact h.more zz0 hM
theorem yom {back:Bool}:∀ (cs:List Chunk) {M:Nat} {x:zdi×Bool},LI N M x.1->M+Rcv.wts cs<=2000000->LI N (M+Rcv.wts cs) (cs.foldl (zgz back) x).1
 | [],M,x,h,_=>h
 | c::cs,M,x,h,hM=>by
  rw [Rcv.zoc] at hM ⊢;have:=yom (back:=back) cs (ycp (back:=back) (c:=c) h zz0) zz0;rw [<- zy104];exact this
theorem yig (h:LI N M l) {ps:List zba} (hp:∀ p∈ps,p.bytes.length<=120):LI N M {l with way:=zrd l.way ps} :=
 ⟨h.snd,h.rcv,h.small,yyx ps _ h.way,fun p hq=>by rcases ydq ps _ p hq with hq | hq;exact h.bytes p hq;exact hp p hq⟩
theorem xkq (h:LI N M l) (path:Int):LI N M (told path l):=by
 unfold told;split
 . refine yig h fun p hp=>?_
   rw [zy7] at hp;subst hp;have:=zsf [Rcv.zle l.receiver] 120 zz5;dsimp only;omega
 . exact h
theorem ykk (h:LI N M l) {p:zba} (hp:p.bytes.length<=120) (hM:M+120<=2000000):LI N (M+120) (zfm l p):=by
 have hw:=(zxi p.bytes).1;have h2:LI N (M+120) (zik l p).1:=(yom (back:=p.back) (Pck.zfe p.bytes).1 (x:=(l,false)) h zz0).more zz0 hM;unfold zfm;split
 . exact h.more zz0 hM
 split
 . exact xkq h2 _
 . exact h2
theorem zvy (h:LI N M l):LI N M (emit l):=by
 have hw:=Snd.zca h.snd.cfg;have hc:=Snd.xeb h.snd;have h2:LI N M {l with sender:=(Snd.zfc l.sender).1}:=⟨Snd.yyv h.snd,h.rcv,h.small,h.way,h.bytes⟩
 refine yig h2 fun p hp=>?_
 have:=(ztk zz0 _ _ p hp).1;omega
theorem zvw (h:LI N M l) (x:Step) (hN:N+1<=2 ^ 20) (hM:M+120<=2000000):LI (N+1) (M+120) (doS l x).1:=by
 have h0:LI (N+1) (M+120) l:=⟨h.snd.mono zz0 hN,h.rcv.more zz0,hM,h.way,h.bytes⟩
 unfold doS;split
 . split
   . rename_i e
     exact zvy (l:={l with sender:=Snd.zgb l.sender x.message}) ⟨Snd.zxp h.snd e hN,h0.rcv,hM,h.way,h.bytes⟩
   . exact h0
 split
 . split
   . exact h0
   split
   . exact h0
   rename_i p hp;have hb:=h.bytes p (zy5 hp);have he:∀ {N M:Nat},LI N M l->LI N M {l with way:=l.way.eraseIdx x.n.toNat}:=fun h =>
    ⟨h.snd,h.rcv,h.small,by show (l.way.eraseIdx _).length<=40;have:=h.way;rw [zy105];split<;>omega,fun q hq=>h.bytes q (zy65 hq)⟩
   split
   . refine zvy (yig h0 fun q hq=>?_)
     rw [zy7] at hq;subst hq;exact hb
   . refine zvy ?_
     split
     . exact ykk (he ⟨h.snd.mono zz0 hN,h.rcv,h.small,h.way,h.bytes⟩) hb hM
     . exact he h0
 split
 . exact zvy (l:={l with sender:=Snd.tick l.sender}) ⟨Snd.zyg h0.snd,h0.rcv,hM,h.way,h.bytes⟩
 . exact h0
theorem yqc:∀ (a:List Step) {N M:Nat} {l:zdi},LI N M l->N+a.length<=2 ^ 20->M+120*a.length<=2000000->LI (N+a.length) (M+120*a.length) (zfq l a).1
 | [],N,M,l,h,_,_=>h
 | x::a,N,M,l,h,h1,h2=>by
  simp only [zy8] at h1 h2 ⊢;have:=yqc a (zvw h x zz0 zz0) zz0 zz0;rw [show N+(a.length+1)=N+1+a.length by omega,show M+120*(a.length+1)=M+120+120*a.length by omega];exact this
end
theorem ydd {c:Config} (h:Snd.zob c=0):LI 0 0 (zic c):=by
 have hw:=Snd.zca h;have hl:(Rcv.yag c).zbf.length<=4:=by simp [Rcv.yag];omega
 have ht:∀ t∈(Rcv.yag c).zbf,t=0:=fun t ht=>(zy156.1 ht).2
 exact ⟨Snd.xfw h,⟨zy19 _,zy19 _,zy19 _,trivial,by simp [zic,Rcv.yag],by simp [zic,Rcv.yag],by show -1<=c.first-1;omega,by show c.first-1<=_;omega,fun t htt=>by rw [ht t htt];decide,fun t htt=>by rw [ht t htt];simp [zic,Rcv.yag],by show (Rcv.yag c).zbf.length<_;omega⟩,by decide,by simp [zic],by simp [zic]⟩
end Ln
namespace Ln
open Ser
abbrev zkv (l:List zba):zad:=.live (.row 110 3 (l.map zba.row))
abbrev pks (l:List zba):HV:=.p (.sl 3 (l.map zba.row))
def lnC (s:zab) (r:Receiver) (w:HV):List HV:=[i64 s.config.streams,i64 s.config.part,i64 s.config.packet,i64 s.config.paths,i64 s.config.turns,i64 s.config.waiting,i64 s.config.first,i64 s.clock,Sch.qs s.queue,i64 s.sched.last,i64 s.sched.hand,ints s.sched.had,Sco.ztz s.out,Snd.xpj s.paths,i64 s.cum,i64 s.next,i64 s.room,ints s.mids,ints s.fates,zbm s.forward,i64 s.recover,
 i64 r.config.streams,i64 r.config.part,i64 r.config.packet,i64 r.config.paths,i64 r.config.turns,i64 r.config.waiting,i64 r.config.first,i64 r.cum,.p (.sl 2 (r.zaq.map Span.row)),.p (.sl 12 (r.pieces.map zav.row)),ints r.zbf,.p (.sl 4 (r.log.map zcr.row)),w]
abbrev lnB (s:zab) (r:Receiver) (w:HV):zad:=.live (.cells 40 (lnC s r w))
theorem yqw (ps:List zba) (h1:ps.length<2 ^ 22) (h2:∀ p∈ps,p.bytes.length<2 ^ 38):zao Tryz.prog 112 [pks ps] zaf (.own 0) (lk .free [(0,zkv ps)]):=by
 refine zan mixed Tryz.func112 zz5 [] (fun _=>.inl rfl) ?_;(conv=>whnf);refine ⟨{x:List zba×List zba // ps=x.1++x.2},fun | ⟨(A,B),_⟩=>hs 22 [(3,.own 900),(6,pks ps),(7,i64 ps.length),(8,i64 A.length)] [(900,zkv A)],fun x=>x.1.2.length,⟨([],ps),rfl⟩,?_,?_⟩
 . exact (zem [(900,none)])
 rintro ⟨⟨A,B⟩,h⟩;dsimp only at h;(conv=>whnf);cases B with
 | cons p B =>
  have hz:=zch h;have hp:=h2 p (zlx h);refine sT ?_;refine zal h rfl (zw ?_)
  (refine zat [(0,14)]  ?_;(conv=>whnf);refine dO (Cl.zdb p.bytes zz0) ?_)
  refine zaa (c:=((A.map zba.row).length+1)*40<=140737488355328) zz4 (zw ?_);refine sF ?_;exact ⟨⟨(A++[p],B),zas h⟩,(zcy [(900,some 19)] (by repeat' (first | exact z0 | refine z1 ?_ | refine ⟨?_,?_⟩ | ((exact zce (f:=zba.row) rfl rfl)) | exact z2))),by simp⟩
 | nil =>
  have hz:=zde h;rw [zy9] at h;refine sN ?_;exact zam [(0,some 900)] rfl rfl trivial rfl rfl ⟨⟨rfl,.inl ⟨900,rfl,by exact zar (by rw [h])⟩⟩,trivial⟩
theorem yjl (l:zdi) (h1:Snd.Fit l.sender) (h2:Rcv.Fit l.receiver) (h3:l.way.length<2 ^ 22) (h4:∀ p∈l.way,p.bytes.length<2 ^ 38):zao Tryz.prog 55 [l.hv] zaf (.agg (lnC l.sender l.receiver (.own 0))) (lk .free [(0,zkv l.way)]):=by
 refine zan mixed Tryz.func55 zz5 [] (fun _=>.inl rfl) ?_;(conv=>whnf)
 (refine cP ?_;refine dL (Snd.zyb l.sender h1) ?_)
 (refine cP ?_;refine dL (Rcv.zyb l.receiver h2) ?_)
 (refine zat [(0,20)]  ?_;(conv=>whnf);refine dO (yqw l.way h3 h4) ?_)
 refine sD ?_;exact yy11
theorem yqe (w A:List zba) (p:zba):zrd w (A++[p])=xge (zrd w A) p:=by simp [zrd]
theorem zlu (s:zab) (r:Receiver) (w ps:List zba) (h1:ps.length<2 ^ 62):zao Tryz.prog 116 [.ptr 1000 0,pks ps] (lk .free [(1000,lnB s r (.own 1001)),(1001,zkv w)]) (.tup []) (lk .free [(1000,lnB s r (.own 0)),(0,zkv (zrd w ps)),(1001,.dead)]):=by
 refine zan mixed Tryz.func116 zz5 [1000,1001] zbk ?_;(conv=>whnf);refine ⟨{x:List zba×List zba // ps=x.1++x.2},fun | ⟨(A,B),_⟩=>hsP [1000,1001] 29 [(0,.ptr 1000 0),(6,pks ps),(7,i64 ps.length),(8,i64 A.length)] [(1000,lnB s r (.own 900)),(900,zkv (zrd w A)),(1001,.dead)],fun x=>x.1.2.length,⟨([],ps),rfl⟩,?_,?_⟩
 . exact (zdf [(1000,some 1000),(1001,some 1001),(900,some 1001)])
 rintro ⟨⟨A,B⟩,h⟩;dsimp only at h;(conv=>whnf);cases B with
 | cons p B =>
  have hz:=zch h;refine sT ?_;refine zal h rfl (zw ?_);by_cases c:(zrd w A).length<40
  case pos =>
   refine sT ?_;refine zaa (c:=(((zrd w A).map zba.row).length+1)*40<=140737488355328) zz4 (zw ?_);refine sD ?_;refine sF ?_;exact ⟨⟨(A++[p],B),zas h⟩,(zbx [(1000,some 1000),(1001,some 1001),(900,some 25)] (by repeat' (first | exact z0 | refine z1 ?_ | refine ⟨?_,?_⟩ | ((exact zce (f:=zba.row) (by rw [yqe,xge,zy1 c]) rfl)) | exact z2))),by simp⟩
  case neg =>
   refine sN ?_;refine sF ?_;exact ⟨⟨(A++[p],B),zas h⟩,(zbx [(1000,some 1000),(1001,some 1001),(900,some 900)] (by repeat' (first | exact z0 | refine z1 ?_ | refine ⟨?_,?_⟩ | ((exact zar (by rw [yqe,xge,zy0 c]))) | exact z2))),by simp⟩
 | nil =>
  have hz:=zde h;rw [zy9] at h;refine sN ?_
  (exact zdn [(1000,some 1000),(1001,some 1001),(0,some 900)] zz49)
end Ln
namespace Ln
open Ser
theorem ywk (back:Bool) (x:zdi×Bool) (c:Chunk):(zgz back x c).1.way=x.1.way:=by
 unfold zgz;(repeat' split)<;>rfl
theorem xav:∀ cs:List Chunk,cs.length<=Rcv.wts cs
 | []=>by simp [Rcv.wts]
 | c::cs=>by
  have:=xav cs;rw [Rcv.zoc,zy8];unfold Rcv.wt;omega
theorem ymo (r:Receiver):Pck.zgw [Rcv.zle r]:=⟨by simp,fun c hc=>by
 rw [zy7] at hc;subst hc;exact ⟨by simp [Rcv.zle];omega,by simp [Rcv.zle]⟩⟩
theorem ytk {N M:Nat} (l:zdi) (p:zba) (h:LI N M l) (hM:M+120<=2000000) (hp:p.bytes.length<=120):zao Tryz.prog 118 [.ptr 1000 0,p.hv] (lk .free [(1000,lnB l.sender l.receiver (.own 1001)),(1001,zkv l.way)]) (.tup [])
 (lk .free [(1000,lnB (zfm l p).sender (zfm l p).receiver (.own 0)),(0,zkv (zfm l p).way),(1001,.dead)]):=by
 obtain ⟨path,back,bytes⟩:=p;dsimp only at hp;generalize hT:zfm l ⟨path,back,bytes⟩=T;refine zan mixed Tryz.func118 zz5 [1000,1001] zbk ?_;(conv=>whnf);have hw:=zxi bytes
 (refine cP ?_;refine dL (Pck.ymi bytes zz0) ?_)
 rw [zfm] at hT;dsimp only at hT;have hall:zik l ⟨path,back,bytes⟩=(Pck.zfe bytes).1.foldl (zgz back) (l,false):=rfl;generalize Pck.zfe bytes=K at hT hw hall ⊢;obtain ⟨cs,e⟩:=K;dsimp only at hT hw hall;by_cases c1:e=0
 case neg =>
  rw [zy1 c1] at hT;subst hT;rw [show (e != 0)=true from zy135.2 c1];(conv=>whnf)
  (exact zcc [(1000,some 1000),(1001,some 1001),(0,some 1001)])
 case pos =>
 subst c1;rw [zy0 (fun h=>h rfl)] at hT;(conv=>whnf)
 repeat refine sG ?_
 refine ⟨{x:(zdi×Bool)×List Chunk×List Chunk // cs=x.2.1++x.2.2/\x.2.1.foldl (zgz back) (l,false)=x.1/\LI N (M+Rcv.wts x.2.1) x.1.1/\x.1.1.way=l.way},fun | ⟨((y,told),A,B),_⟩=>hsP [1000,1001] 85 [(0,.ptr 1000 0),(3,.ptr 3 0),(6,zbm told),(19,.p (.sl 11 (cs.map Chunk.row))),(20,i64 cs.length),(21,i64 A.length)] [(1000,lnB y.sender y.receiver (.own 1001)),(1001,zkv l.way),(3,.live (.cells 110 (⟨path,back,bytes⟩:zba).cells))],fun x=>x.1.2.2.length,⟨((l,false),[],cs),rfl,rfl,h,rfl⟩,?_,?_⟩
 . exact (zdf [(1000,some 1000),(1001,some 1001),(3,some 3)])
 rintro ⟨⟨⟨y,told⟩,A,B⟩,k1,k2,k3,k4⟩;dsimp only at k1 k2 k3 k4;(conv=>whnf);cases B with
 | cons c B =>
  have hz:=zch k1;obtain ⟨w1,w2⟩:=hw;have hcl:=xav cs;have hc:=w2 c (zlx k1);have hsum:Rcv.wts cs=Rcv.wts A+(Rcv.wt c+Rcv.wts B):=by rw [k1,Rcv.xau,Rcv.zoc]
  have hwt:Rcv.wt c=c.data.length+c.zbv.length+1:=rfl;have hnx:(A++[c]).foldl (zgz back) (l,false)=zgz back (y,told) c:=by rw [zy84,k2];rfl
  have hli:=ycp (back:=back) (x:=(y,told)) (c:=c) k3 zz0;have hwy:=(ywk back (y,told) c).trans k4;rw [show M+Rcv.wts A+Rcv.wt c=M+Rcv.wts (A++[c]) by rw [Rcv.xau,Rcv.zoc];simp [Rcv.wts];omega] at hli;have hfit:=k3.rcv.fit zz0;refine sT ?_;refine zal k1 rfl (zw ?_)
  repeat refine sG ?_
  cases back with
  | true =>
   conv=>whnf
   (refine cP ?_;refine dL (Snd.yzu y.sender c k3.snd.fit k3.snd.right zz0) ?_)
   refine sD ?_
   repeat refine sG ?_
   refine sF ?_;exact ⟨⟨(zgz true (y,told) c,A++[c],B),zas k1,hnx,hli,hwy⟩,(zdf [(1000,some 1000),(1001,some 1001),(3,some 3)]),by simp⟩
  | false =>
   conv=>whnf
   repeat refine sG ?_
   by_cases d1:c.kind=1
   case pos =>
    have e1:zgz false (y,told) c=({y with receiver:=Rcv.data y.receiver c},true):=by unfold zgz;rw [zy0 (by decide),zy1 d1]
    rw [e1] at hnx hli hwy;rw [show (c.kind==1)=true from zy44.2 d1];(conv=>whnf)
    (refine cP ?_;refine dL (Rcv.yti y.receiver c (k3.rcv.dfit zz0 zz0)) ?_)
    refine sD ?_
    repeat refine sG ?_
    refine sF ?_;exact ⟨⟨(({y with receiver:=Rcv.data y.receiver c},true),A++[c],B),zas k1,hnx,hli,hwy⟩,(zdf [(1000,some 1000),(1001,some 1001),(3,some 3)]),by simp⟩
   case neg =>
    rw [show (c.kind==1)=false from zy21.2 d1];(conv=>whnf)
    repeat refine sG ?_
    by_cases d2:c.kind=3
    case pos =>
     have e1:zgz false (y,told) c=({y with receiver:=Rcv.forward y.receiver c},true):=by unfold zgz;rw [zy0 (by decide),zy0 d1,zy1 d2]
     rw [e1] at hnx hli hwy;rw [show (c.kind==3)=true from zy44.2 d2];(conv=>whnf)
     (refine cP ?_;refine dL (Rcv.yeg y.receiver c k3.rcv zz0 zz0) ?_)
     refine sD ?_
     repeat refine sG ?_
     refine sF ?_;exact ⟨⟨(({y with receiver:=Rcv.forward y.receiver c},true),A++[c],B),zas k1,hnx,hli,hwy⟩,(zdf [(1000,some 1000),(1001,some 1001),(3,some 3)]),by simp⟩
    case neg =>
     have e1:zgz false (y,told) c=(y,told):=by unfold zgz;rw [zy0 (by decide),zy0 d1,zy0 d2]
     rw [e1] at hnx hli hwy;rw [show (c.kind==3)=false from zy21.2 d2];(conv=>whnf)
     repeat refine sG ?_
     refine sF ?_;exact ⟨⟨((y,told),A++[c],B),zas k1,hnx,hli,hwy⟩,(zdf [(1000,some 1000),(1001,some 1001),(3,some 3)]),by simp⟩
 | nil =>
  have hz:=zde k1;rw [zy9] at k1;rw [<- k1] at k2 k3;rw [hall,k2] at hT;dsimp only at hT;obtain ⟨w1,w2⟩:=hw;have hfit:=k3.rcv.fit zz0;refine sN ?_;cases told with
  | false =>
   rw [zy0 (by decide)] at hT;subst hT;(conv=>whnf)
   (exact zdn [(1000,some 1000),(1001,some 1001),(0,some 1001)] zz31)
  | true =>
   rw [zy1 rfl] at hT;(conv=>whnf)
   repeat refine sG ?_
   have hcb:=k3.rcv.cumB zz0
   (refine cP ?_;refine dL (Rcv.yts y.receiver (by have:=hfit.zaq;omega) (by have:=hfit.pieces;omega) (by have:=hfit.bytes;omega) hcb.1 hcb.2 (k3.rcv.spansB zz0)) ?_)
   (refine cP ?_;refine dL (Pck.zgp [Rcv.zle y.receiver] 120 (ymo _)) ?_)
   unfold Ln.told at hT;generalize Pck.zcu [Rcv.zle y.receiver] 120=K2 at hT ⊢;obtain ⟨b,e⟩:=K2;dsimp only at hT;by_cases c3:e=0
   case pos =>
    rw [zy1 c3] at hT;subst hT c3;(conv=>whnf)
    (refine zac [false,true] [(1000,1000),(1001,1001)] [(0,940)] ?_;(conv=>whnf);refine dG (zlu y.sender y.receiver l.way [⟨path,true,b⟩] zz3) ?_)
    (exact zdn [(1000,some 1000),(1001,some 1001),(0,some 940)] zz31)
   case neg =>
    rw [zy0 c3] at hT;subst hT;rw [show (e==0)=false from zy21.2 c3];(conv=>whnf)
    (exact zdn [(1000,some 1000),(1001,some 1001),(0,some 1001)] zz31)
end Ln
namespace Ln
open Ser
end Ln
namespace Snd
open Ser
def ext (p:zfs):zfs:=⟨p.s,p.out++[[]]⟩
def SL (s:zab):Prop:=0<=s.sched.last/\s.sched.last<s.sched.had.length
theorem ywe {s:zab} {id:Int} (h:SL s):SL (zcd s id):=by
 have e:(zcd s id).sched=if s.sched.hand=id then {s.sched with hand:=-1} else s.sched:=rfl
 unfold SL;rw [e];split<;>exact h
theorem xhu {s:zab} {m:zae} (h:SL s):SL (zhw s m):=by unfold zhw;split;exact ywe h;exact h
theorem xhy {s:zab} {m:zbr} (h:SL s):SL (zgt s m):=by unfold zgt;split;exact ywe h;exact h
theorem ynx:∀ (q:List zae) {s:zab},SL s->SL (q.foldl zhw s)
 | [],_,h=>h
 | _::q,_,h=>ynx q (xhu h)
theorem yob:∀ (q:List zbr) {s:zab},SL s->SL (q.foldl zgt s)
 | [],_,h=>h
 | _::q,_,h=>yob q (xhy h)
theorem yvo {s:zab} (h:SL s):SL (expire s):=yob _ (ynx _ h)
theorem yfv (p:zfs) (i path:Nat):(fly p i path).s.sched=p.s.sched:=by unfold fly;split<;>rfl
theorem ycf (p:zfs):(forward p).s.sched=p.s.sched:=by unfold forward;split<;>rfl
theorem yxx {p q:zfs} (h:next p=some q):(p.s.out.length:Int)<60/\∃ (k:Nat) (m:zae),p.s.queue[k]?=some m/\q=ylq p k m (many p.s m):=by
 unfold next at h;by_cases c1:zdh p.s<0\/opened p.s (choose p.s)=false\/(p.s.out.length:Int)>=60
 . rw [zy1 c1] at h;cases h
 rw [zy0 c1] at h;refine ⟨by omega,(zdh p.s).toNat,?_⟩;cases hm:p.s.queue[(zdh p.s).toNat]? with
 | none=>rw [hm] at h;cases h
 | some m =>
  rw [hm] at h;dsimp only at h;split at h
  . cases h
  . cases h;exact ⟨m,rfl,rfl⟩
theorem xjh {N:Nat} {p q:zfs} (hS:SI N p.s) (h:next p=some q):SL q.s:=by
 obtain ⟨-,k,m,hm,rfl⟩:=yxx h;have hq:=hS.queue m (zy5 hm);have hn:=hS.nhad;have h0:=hq.st0;have h1:=hq.st1;obtain ⟨ps,po⟩:=p;unfold SL;rw [zjd,yfv];show 0<=m.message.stream/\m.message.stream<((Sch.had ps.sched _ _ _).had.length:Int);rw [ywg];dsimp only at hn h1;omega
end Snd
namespace Snd
open Ser
end Snd
namespace Snd
open Ser
end Snd
namespace Snd
open Ser
end Snd
namespace Snd
open Ser
theorem PF.down {j i:Nat} {s:zab} (h:PF (j+i) s):PF j s:=⟨h.g,h.some,h.part,h.part2,h.msg,h.chunk,zy159 (Nat.add_le_add_left (zy76 _ (Nat.le_add_right j i)) _) h.bytes,h.few⟩
theorem PO.down {g:Config} {j i n k:Nat} {p:zfs} (h:PO g (j+i) n k p):PO g j n k p:=⟨h.pf.down,h.paths,h.outs,h.config,h.most⟩
theorem ypq:∀ (i:Nat) {g:Config} {j n k:Nat} {p:zfs},PO g (j+i) n k p->PO g j n (k+i) (zga i p)
 | 0,_,_,_,_,_,h=>h
 | i+1,g,j,n,k,p,h=>by
  unfold zga;rcases ylr (j:=j+i) h with ⟨-,e⟩ | ⟨q,-,e,-,-,h2⟩
  . rw [e];exact h.down.mono zz0
  . rw [e]
    have:=ypq i h2;exact this.mono zz0
theorem yhx (most path:Int):∀ (n:Nat) (l:List Chunk),(zgu most path n l).length<=n
 | 0,l=>by simp [zgu]
 | n+1,l=>by
  have:=yhx most path n (l.drop (zcg most l).toNat);have h1:(zmd most path l).length<=1:=by unfold zmd;split<;>simp
  unfold zgu;split
  . simp
  . rw [zy4];omega
theorem ztl (most:Int) {k:Nat}:∀ (ls:List (List Chunk)) (i:Nat),(∀ l∈ls,l.length<=k)->(zbw most i ls).length<=k*ls.length
 | [],i,_=>by simp [zbw]
 | l::ls,i,h=>by
  have h1:=yhx most i l.length l;have h2:=ztl most ls (i+1) fun x hx=>h x zz28
  have h3:=h l zz3;unfold zbw;rw [zy4,zy8,Nat.mul_add];omega
theorem zqg {N:Nat} {s:zab} (h:SI N s):(zfc s).2.length<2 ^ 62:=by
 have e1:=ybn (znk (zpt h.pf));have e2:=ypq (j:=1) 61 e1;have h1:=(znk (zpt h.pf)).pf.few;have h2:=h.npaths;have h3:=zca h.cfg;have h4:=ztl s.config.packet (zho s).out 0 fun l hl=>(e2.most l hl).1
 have h5:(zho s).out.length=s.paths.length:=e2.outs;rw [h5] at h4;have h6:s.paths.length<=2:=by omega
 show (zbw s.config.packet 0 (zho s).out).length<_;refine zy159 h4 (zy159 (Nat.mul_le_mul_left _ h6) ?_);omega
end Snd
namespace Ln
open Ser
def noR:Receiver:=⟨⟨0,0,0,0,0,0,0⟩,0,[],[],[],[]⟩
def noL:zdi:=⟨Snd.noS,noR,[]⟩
def ylp (c:Config):zdi×Int:=if Snd.zob c=0 then (zic c,0) else (noL,Snd.zob c)
theorem yjg (c:Config):zao Tryz.prog 54 [c.hv] zaf (.tup [(ylp c).1.hv,i64 (ylp c).2]) zaf:=by
 refine zap mixed Tryz.func54 zz5 ?_;(conv=>whnf);have pn:=Snd.zqs c;by_cases c1:Snd.zob c=0
 case neg =>
  rw [show ylp c=(noL,Snd.zob c) from zy0 c1];rw [show Snd.xay c=(Snd.noS,Snd.zob c) from zy0 c1] at pn
  (refine cP ?_;refine dL pn ?_)
  rw [show (Snd.zob c != 0)=true from zy135.2 c1];(conv=>whnf)
  try rfl
 case pos =>
  have hw:=Snd.zca c1;rw [show ylp c=(zic c,0) from zy1 c1];rw [show Snd.xay c=(Snd.zrx c,0) from zy1 c1] at pn
  (refine cP ?_;refine dL pn ?_)
  repeat refine sG ?_
  (refine cP ?_;refine dL (Rcv.yzy c zz0 zz0 zz0) ?_)
  ((refine zbi ?_ ?_;(· kernel_rfl);conv=>whnf);try refine sG ?_)
  try rfl
theorem xbp (l:List zba) (i j:Nat) (hij:i<=j) (hj:j<=l.length) (hb:l.length<2 ^ 40) :
 zao Tryz.prog 117 [.osl 1000 3 0 (l.map zba.row).length,i64 i,i64 j] (lk .free [(1000,.live (.row 110 3 (l.map zba.row)))])
  (.osl 1000 3 0 (l.length-(j-i))) (lk .free [(1000,.live (.row 110 3 ((l.take i++l.drop j).map zba.row++List.replicate (j-i) ([pi 0,pb false,.v (.slice none 0 0)]))))]):=by
 refine zan mixed Tryz.func117 zz5 [1000] zbk ?_;have hlr:(l.map zba.row).length=l.length:=by simp
 (conv=>whnf);refine sO ?_;by_cases h:i=j
 . subst h
   refine sT ?_;refine zam [(1000,some 1000)] rfl rfl ⟨rfl,trivial⟩ rfl ?_ ⟨⟨rfl,.inl ⟨1000,rfl,?_⟩⟩,trivial⟩
   . show HV.osl 1000 3 0 (l.length-(i-i))=HV.osl 1000 3 0 (l.map zba.row).length
     rw [hlr,zy91];rfl
   . show zad.live (.row _ 3 (l.map zba.row))=zad.live (.row _ 3 _)
     rw [zy28,zy91,zy151,zy9]
 . refine sN ?_
   refine sO ?_;refine sO ?_;refine ⟨_,rfl,?_,?_⟩
   . rw [hlr];omega
   (conv=>whnf);refine zaa zz4 ?_;(conv=>whnf);refine zbi ?_ ?_
   . kernel_rfl
   (conv=>whnf);refine zaa zz37 ?_;(conv=>whnf);refine zaa zz37 ?_;(conv=>whnf);refine zam [(1000,some 1000)] rfl rfl ⟨rfl,trivial⟩ rfl ?_ ⟨⟨rfl,.inl ⟨1000,rfl,?_⟩⟩,trivial⟩
   . show HV.osl 1000 3 0 _=HV.osl 1000 3 0 _
     congr 1;simp;omega
   . refine (congrArg (fun r=>zad.live (.row _ 3 r)) (yby (rows:=l.map zba.row) (i:=i) (j:=j) (z:=([pi 0,pb false,.v (.slice none 0 0)])) hij (by rw [hlr];exact hj) ?_ ?_ ?_ ?_ ?_)).trans ?_
     . simp<;>omega
     . simp<;>omega
     . simp<;>omega
     . simp;omega
     . simp;omega
     . rw [zy40,zy125,zy106];rfl
theorem xmd (l:List zba) (i j:Nat) (hij:i<=j) (hj:j<=l.length) (hb:l.length<2 ^ 40) :
 zao Tryz.prog 117 [.own 1000,i64 i,i64 j] (lk .free [(1000,.live (.row 110 3 (l.map zba.row)))])
  (.own 0) (lk .free [(1000,.dead),(0,.live (.row 110 3 ((l.take i++l.drop j).map zba.row)))]):=by
 have h:=zko (d:=0) (L:=[]) (rows:=(l.take i++l.drop j).map zba.row++List.replicate (j-i) ([pi 0,pb false,.v (.slice none 0 0)])) (zwi (xbp l i j hij hj hb)) (.inl rfl) zz4 rfl zz5
 rwa [zy101 zz4] at h
theorem yrs (a b:List zba) (x:zba) (i j:Int) (hi:i=a.length) (hj:j=a.length+1) (hb:(a++x::b).length<2 ^ 40) :
 zao Tryz.prog 117 [.own 1000,i64 i,i64 j] (lk .free [(1000,.live (.row 110 3 ((a++x::b).map zba.row)))])
  (.own 0) (lk .free [(1000,.dead),(0,.live (.row 110 3 ((a++b).map zba.row)))]):=by
 subst hi hj;have h:=xmd (a++x::b) a.length (a.length+1) zz0 zz3 hb
 rwa [zy161,show (a++x::b).drop (a.length+1)=b by rw [<- zy117,zy118];rfl,zy131] at h
theorem yfj {inp out:List zba} (a b:List zba) (x:zba) (i j:Int) (h1:inp=a++x::b) (h2:out=a++b) (hi:i=a.length) (hj:j=a.length+1) (hb:inp.length<2 ^ 40) :
 zao Tryz.prog 117 [.own 1000,i64 i,i64 j] (lk .free [(1000,.live (.row 110 3 (inp.map zba.row)))])
  (.own 0) (lk .free [(1000,.dead),(0,.live (.row 110 3 (out.map zba.row)))]):=by
 subst h1 h2;exact yrs a b x i j hi hj hb
theorem xel {N M:Nat} (l:zdi) (x:Step) (h:LI N M l) (hN:N+1<=2 ^ 20) (hM:M+120<=2000000) (hx:x.message.data.length<2 ^ 38) :
 zao Tryz.prog 65 [l.hv,x.hv] zaf (.tup [.agg (lnC (doS l x).1.sender (doS l x).1.receiver (.own 0)),(doS l x).2.hv]) (lk .free [(0,zkv (doS l x).1.way)]):=by
 have hway:=h.way;have hby:=h.bytes;generalize hT:doS l x=T;rw [doS] at hT;refine zan mixed Tryz.func65 zz5 [] (fun _=>.inl rfl) ?_;(conv=>whnf)
 (refine zat [(0,20)]  ?_;(conv=>whnf);refine dO (yjl l h.snd.fit (h.rcv.fit h.small) zz0 (fun p hp=>by have:=hby p hp;omega)) ?_)
 by_cases c1:x.kind=1
 case pos =>
  rw [zy1 c1] at hT;rw [show (x.kind==1)=true from zy44.2 c1];(conv=>whnf);have ps:=Snd.zmz l.sender x.message h.snd.fit hx;by_cases e1:Snd.zeu l.sender x.message=0
  case pos =>
   rw [zy1 e1] at hT;subst hT;rw [Snd.yiu e1] at ps
   (refine cP ?_;refine dL ps ?_)
   repeat refine sG ?_
   have hy:=(show LI (N+1) M {l with sender:=Snd.zgb l.sender x.message} from ⟨Snd.zxp h.snd e1 hN,h.rcv,h.small,h.way,h.bytes⟩)
   have hyw:=Snd.zca hy.snd.cfg;have hyp:=hy.snd.npaths
   (refine cP ?_;refine dL (Snd.zmy (({l with sender:=Snd.zgb l.sender x.message}:zdi)).sender hy.snd.pf zz76 zz0) ?_)
   repeat refine sG ?_
   (refine zac [] [(1000,6),(1001,20)] [(0,950)] ?_;(conv=>whnf);refine dG (zlu (Snd.zfc (({l with sender:=Snd.zgb l.sender x.message}:zdi)).sender).1 (({l with sender:=Snd.zgb l.sender x.message}:zdi)).receiver (({l with sender:=Snd.zgb l.sender x.message}:zdi)).way (Snd.zfc (({l with sender:=Snd.zgb l.sender x.message}:zdi)).sender).2 (Snd.zqg hy.snd)) ?_ ⟨rfl,rfl,rfl,⟨zz1,⟨zz1,trivial⟩⟩,⟨⟨rfl,rfl⟩,trivial⟩,rfl,rfl,rfl⟩)
   exact yy21
  case neg =>
   rw [zy0 e1] at hT;subst hT;rw [Snd.zuv rfl e1] at ps
   (refine cP ?_;refine dL ps ?_)
   rw [show (Snd.zeu l.sender x.message != 0)=true from zy135.2 e1];(conv=>whnf);exact yy11
 case neg =>
  rw [zy0 c1] at hT;rw [show (x.kind==1)=false from zy21.2 c1];(conv=>whnf)
  repeat refine sG ?_
  by_cases c2:x.kind=2\/x.kind=3\/x.kind=4
  case neg =>
   rw [zy0 c2] at hT;have c2:=not_or.1 c2;have c3:=not_or.1 c2.2;rw [show (x.kind==2)=false from zy21.2 c2.1];(conv=>whnf)
   repeat refine sG ?_
   rw [show (x.kind==3)=false from zy21.2 c3.1];(conv=>whnf)
   repeat refine sG ?_
   rw [show (x.kind==4)=false from zy21.2 c3.2];(conv=>whnf)
   repeat refine sG ?_
   by_cases c5:x.kind=5
   case pos =>
    rw [zy1 c5] at hT;subst hT;rw [show (x.kind==5)=true from zy44.2 c5];(conv=>whnf)
    repeat refine sG ?_
    (refine cP ?_;refine dL (Snd.xag l.sender h.snd.fit) ?_)
    repeat refine sG ?_
    have hy:=(show LI N M {l with sender:=Snd.tick l.sender} from ⟨Snd.zyg h.snd,h.rcv,h.small,h.way,h.bytes⟩)
    have hyw:=Snd.zca hy.snd.cfg;have hyp:=hy.snd.npaths
    (refine cP ?_;refine dL (Snd.zmy (({l with sender:=Snd.tick l.sender}:zdi)).sender hy.snd.pf zz76 zz0) ?_)
    repeat refine sG ?_
    (refine zac [] [(1000,6),(1001,20)] [(0,950)] ?_;(conv=>whnf);refine dG (zlu (Snd.zfc (({l with sender:=Snd.tick l.sender}:zdi)).sender).1 (({l with sender:=Snd.tick l.sender}:zdi)).receiver (({l with sender:=Snd.tick l.sender}:zdi)).way (Snd.zfc (({l with sender:=Snd.tick l.sender}:zdi)).sender).2 (Snd.zqg hy.snd)) ?_ ⟨rfl,rfl,rfl,⟨zz1,⟨zz1,trivial⟩⟩,⟨⟨rfl,rfl⟩,trivial⟩,rfl,rfl,rfl⟩)
    exact yy21
   case neg =>
    rw [zy0 c5] at hT;subst hT;rw [show (x.kind==5)=false from zy21.2 c5];(conv=>whnf);exact yy11
  case pos =>
   rw [zy1 c2] at hT;have c6:x.kind=2\/x.kind≠2/\(x.kind=3\/x.kind≠3/\x.kind=4):=by omega
   rcases c6 with c6 | ⟨c8,c6 | ⟨c7,c6⟩⟩
   . rw [show (x.kind==2)=true from zy44.2 c6]
     conv=>whnf
     repeat refine sG ?_
     by_cases n0:x.n<0
     case pos =>
      rw [zy1 n0] at hT;subst hT;rw [show decide (x.n<0)=true from zy12 n0];(conv=>whnf);exact yy11
     case neg =>
     rw [zy0 n0] at hT;rw [show decide (x.n<0)=false from zy20 n0];(conv=>whnf);cases hp:l.way[x.n.toNat]? with
     | none =>
      rw [hp] at hT;dsimp only at hT;subst hT;have hge:=zy153.1 hp;rw [show decide (x.n>=((l.way.map zba.row).length:Int))=true from zy12 (by rw [zy3];omega)];(conv=>whnf);exact yy11
     | some p =>
     rw [hp] at hT;dsimp only at hT;have hlt:=(zy11.1 hp).1;have hpb:=hby p (zy5 hp);have hsp:l.way=l.way.take x.n.toNat++p::l.way.drop (x.n.toNat+1):=by
      obtain ⟨hk,e⟩:=zy11.1 hp;rw [<- e,zy120,zy28]
     have hsl:(l.way.take x.n.toNat).length=x.n.toNat:=by simp;omega
     have her:l.way.eraseIdx x.n.toNat=l.way.take x.n.toNat++l.way.drop (x.n.toNat+1):=zy96 _ _;rw [show decide (x.n>=((l.way.map zba.row).length:Int))=false from zy20 (by rw [zy3];omega)];(conv=>whnf)
     repeat refine sG ?_
     refine zaa ⟨by omega,by rw [zy3];omega⟩ (zw ?_);refine Snd.zaj hp zz0 (zw ?_);rw [zy0 (by omega),zy1 c6] at hT;rw [show (x.kind==4)=false from zy21.2 (by omega)];(conv=>whnf)
     repeat refine sG ?_
     refine zau (z:=x.n+1) (zbg zz0 zz0) (zw ?_)
     (refine zac [] [(1000,20)] [(0,930)] ?_;(conv=>whnf);refine dG (yfj (l.way.take x.n.toNat) (l.way.drop (x.n.toNat+1)) p x.n (x.n+1) hsp rfl zz0 zz0 zz0) ?_)
     rw [show (x.kind==2)=true from zy44.2 c6];(conv=>whnf);subst hT;have hli:LI N M {l with way:=l.way.eraseIdx x.n.toNat}:=⟨h.snd,h.rcv,h.small,by show (l.way.eraseIdx _).length<=40;rw [zy105];split<;>omega,fun q hq=>hby q (zy65 hq)⟩
     (refine zac [] [(1000,6),(1001,930)] [(0,940)] ?_;(conv=>whnf);refine dG (ytk {l with way:=l.way.eraseIdx x.n.toNat} p hli hM hpb) ?_ ⟨rfl,rfl,rfl,⟨zz1,⟨⟨rfl,_,rfl,.inl ⟨rfl,(zar (by rw [her]))⟩⟩,trivial⟩⟩,⟨⟨rfl,rfl⟩,trivial⟩,rfl,rfl,rfl⟩)
     repeat refine sG ?_
     have hy:=(ykk hli hpb hM)
     have hyw:=Snd.zca hy.snd.cfg;have hyp:=hy.snd.npaths
     (refine cP ?_;refine dL (Snd.zmy ((zfm {l with way:=l.way.eraseIdx x.n.toNat} p)).sender hy.snd.pf zz76 zz0) ?_)
     repeat refine sG ?_
     (refine zac [] [(1000,6),(1001,940)] [(0,950)] ?_;(conv=>whnf);refine dG (zlu (Snd.zfc ((zfm {l with way:=l.way.eraseIdx x.n.toNat} p)).sender).1 ((zfm {l with way:=l.way.eraseIdx x.n.toNat} p)).receiver ((zfm {l with way:=l.way.eraseIdx x.n.toNat} p)).way (Snd.zfc ((zfm {l with way:=l.way.eraseIdx x.n.toNat} p)).sender).2 (Snd.zqg hy.snd)) ?_ ⟨rfl,rfl,rfl,⟨zz1,⟨zz1,trivial⟩⟩,⟨⟨rfl,rfl⟩,trivial⟩,rfl,rfl,rfl⟩)
     exact yy21
   . rw [show (x.kind==2)=false from zy21.2 c8]
     conv=>whnf
     repeat refine sG ?_
     rw [show (x.kind==3)=true from zy44.2 c6];(conv=>whnf)
     repeat refine sG ?_
     by_cases n0:x.n<0
     case pos =>
      rw [zy1 n0] at hT;subst hT;rw [show decide (x.n<0)=true from zy12 n0];(conv=>whnf);exact yy11
     case neg =>
     rw [zy0 n0] at hT;rw [show decide (x.n<0)=false from zy20 n0];(conv=>whnf);cases hp:l.way[x.n.toNat]? with
     | none =>
      rw [hp] at hT;dsimp only at hT;subst hT;have hge:=zy153.1 hp;rw [show decide (x.n>=((l.way.map zba.row).length:Int))=true from zy12 (by rw [zy3];omega)];(conv=>whnf);exact yy11
     | some p =>
     rw [hp] at hT;dsimp only at hT;have hlt:=(zy11.1 hp).1;have hpb:=hby p (zy5 hp);have hsp:l.way=l.way.take x.n.toNat++p::l.way.drop (x.n.toNat+1):=by
      obtain ⟨hk,e⟩:=zy11.1 hp;rw [<- e,zy120,zy28]
     have hsl:(l.way.take x.n.toNat).length=x.n.toNat:=by simp;omega
     have her:l.way.eraseIdx x.n.toNat=l.way.take x.n.toNat++l.way.drop (x.n.toNat+1):=zy96 _ _;rw [show decide (x.n>=((l.way.map zba.row).length:Int))=false from zy20 (by rw [zy3];omega)];(conv=>whnf)
     repeat refine sG ?_
     refine zaa ⟨by omega,by rw [zy3];omega⟩ (zw ?_);refine Snd.zaj hp zz0 (zw ?_);rw [zy0 (by omega),zy0 c8] at hT;rw [show (x.kind==4)=false from zy21.2 (by omega)];(conv=>whnf)
     repeat refine sG ?_
     refine zau (z:=x.n+1) (zbg zz0 zz0) (zw ?_)
     (refine zac [] [(1000,20)] [(0,930)] ?_;(conv=>whnf);refine dG (yfj (l.way.take x.n.toNat) (l.way.drop (x.n.toNat+1)) p x.n (x.n+1) hsp rfl zz0 zz0 zz0) ?_)
     rw [show (x.kind==2)=false from zy21.2 c8];(conv=>whnf)
     repeat refine sG ?_
     subst hT;have hli:LI N M {l with way:=l.way.eraseIdx x.n.toNat}:=⟨h.snd,h.rcv,h.small,by show (l.way.eraseIdx _).length<=40;rw [zy105];split<;>omega,fun q hq=>hby q (zy65 hq)⟩
     have hy:=hli;have hyw:=Snd.zca hy.snd.cfg;have hyp:=hy.snd.npaths
     (refine cP ?_;refine dL (Snd.zmy (({l with way:=l.way.eraseIdx x.n.toNat}:zdi)).sender hy.snd.pf zz76 zz0) ?_)
     repeat refine sG ?_
     (refine zac [] [(1000,6),(1001,930)] [(0,950)] ?_;(conv=>whnf);refine dG (zlu (Snd.zfc (({l with way:=l.way.eraseIdx x.n.toNat}:zdi)).sender).1 (({l with way:=l.way.eraseIdx x.n.toNat}:zdi)).receiver (({l with way:=l.way.eraseIdx x.n.toNat}:zdi)).way (Snd.zfc (({l with way:=l.way.eraseIdx x.n.toNat}:zdi)).sender).2 (Snd.zqg hy.snd)) ?_ ⟨rfl,rfl,rfl,⟨zz1,⟨⟨rfl,_,rfl,.inl ⟨rfl,(zar (by rw [her]))⟩⟩,trivial⟩⟩,⟨⟨rfl,rfl⟩,trivial⟩,rfl,rfl,rfl⟩)
     exact yy21
   . rw [show (x.kind==2)=false from zy21.2 c8]
     conv=>whnf
     repeat refine sG ?_
     rw [show (x.kind==3)=false from zy21.2 c7];(conv=>whnf)
     repeat refine sG ?_
     rw [show (x.kind==4)=true from zy44.2 c6];(conv=>whnf)
     repeat refine sG ?_
     by_cases n0:x.n<0
     case pos =>
      rw [zy1 n0] at hT;subst hT;rw [show decide (x.n<0)=true from zy12 n0];(conv=>whnf);exact yy11
     case neg =>
     rw [zy0 n0] at hT;rw [show decide (x.n<0)=false from zy20 n0];(conv=>whnf);cases hp:l.way[x.n.toNat]? with
     | none =>
      rw [hp] at hT;dsimp only at hT;subst hT;have hge:=zy153.1 hp;rw [show decide (x.n>=((l.way.map zba.row).length:Int))=true from zy12 (by rw [zy3];omega)];(conv=>whnf);exact yy11
     | some p =>
     rw [hp] at hT;dsimp only at hT;have hlt:=(zy11.1 hp).1;have hpb:=hby p (zy5 hp);have hsp:l.way=l.way.take x.n.toNat++p::l.way.drop (x.n.toNat+1):=by
      obtain ⟨hk,e⟩:=zy11.1 hp;rw [<- e,zy120,zy28]
     have hsl:(l.way.take x.n.toNat).length=x.n.toNat:=by simp;omega
     have her:l.way.eraseIdx x.n.toNat=l.way.take x.n.toNat++l.way.drop (x.n.toNat+1):=zy96 _ _;rw [show decide (x.n>=((l.way.map zba.row).length:Int))=false from zy20 (by rw [zy3];omega)];(conv=>whnf)
     repeat refine sG ?_
     refine zaa ⟨by omega,by rw [zy3];omega⟩ (zw ?_);refine Snd.zaj hp zz0 (zw ?_);rw [zy1 c6] at hT;rw [show (x.kind==4)=true from zy44.2 c6];(conv=>whnf)
     (refine zat [(0,935)]  ?_;(conv=>whnf);refine dO (yqw [p] zz3 (fun q hq=>by rw [zy7] at hq;subst hq;omega)) ?_)
     (refine zac [false,true] [(1000,6),(1001,20)] [(0,940)] ?_;(conv=>whnf);refine dG (zlu l.sender l.receiver l.way [p] zz3) ?_)
     repeat refine sG ?_
     subst hT;have xfn:LI N M {l with way:=zrd l.way [p]}:=yig h fun q hq=>by rw [zy7] at hq;subst hq;exact hpb
     have hy:=xfn;have hyw:=Snd.zca hy.snd.cfg;have hyp:=hy.snd.npaths
     (refine cP ?_;refine dL (Snd.zmy (({l with way:=zrd l.way [p]}:zdi)).sender hy.snd.pf zz76 zz0) ?_)
     repeat refine sG ?_
     (refine zac [] [(1000,6),(1001,940)] [(0,950)] ?_;(conv=>whnf);refine dG (zlu (Snd.zfc (({l with way:=zrd l.way [p]}:zdi)).sender).1 (({l with way:=zrd l.way [p]}:zdi)).receiver (({l with way:=zrd l.way [p]}:zdi)).way (Snd.zfc (({l with way:=zrd l.way [p]}:zdi)).sender).2 (Snd.zqg hy.snd)) ?_ ⟨rfl,rfl,rfl,⟨zz1,⟨zz1,trivial⟩⟩,⟨⟨rfl,rfl⟩,trivial⟩,rfl,rfl,rfl⟩)
     exact yy21
theorem ymg {N M:Nat} (l:zdi) (x:Step) (h:LI N M l) (hN:N+1<=2 ^ 20) (hM:M+120<=2000000) (hx:x.message.data.length<2 ^ 38) :
 zao Tryz.prog 65 [l.hv,x.hv] zaf (.tup [(doS l x).1.hv,(doS l x).2.hv]) zaf:=by
 refine zcl Tryz.func65 (xel l x h hN hM hx) ?_;generalize doS l x=d;(conv=>whnf)
 rfl
theorem zdm {N M:Nat} (l:zdi) (h:LI N M l):zao Tryz.prog 55 [l.hv] zaf l.hv zaf:=by
 have hway:=h.way;refine zcl Tryz.func55 (yjl l h.snd.fit (h.rcv.fit h.small) zz0 (fun p hp=>by have:=h.bytes p hp;omega)) ?_;(conv=>whnf)
 rfl
end Ln
namespace Snd
open Ser
theorem SL.side {s t:zab} (h:SL s) (e:t.sched=s.sched):SL t:=by unfold SL;rw [e];exact h
theorem yiw (s:zab):(Snd.settle s).sched=s.sched:=rfl
theorem xin {s:zab} (h:SL s) (c:Chunk):SL (zjo s c):=by
 unfold zjo;split
 . exact h
 split
 . exact h
 rw [zil];refine h.side ?_;rw [yiw];unfold zej;have hU:∀ p l,(zge p (zfd s c (Sco.zex s.out s.cum c s.paths.length)) l).sched=s.sched:=fun p l=>by
  unfold zge;split
  . rfl
  . split<;>rfl
 split
 . exact hU _ _
 . exact hU _ _
theorem zws (part:Int):∀ (l:List Nat) (s:zab),(l.foldl (zdy part) s).sched=s.sched
 | [],_=>rfl
 | i::l,s=>by
  rw [zy35,zws part l];unfold zdy;split
  . rfl
  split
  . rfl
  . dsimp only;split<;>rfl
theorem xko {s:zab} (h:SL s):SL (tick s):=h.side (zws _ _ _)
theorem zsv {path:Nat}:∀ (l:List Nat) (p:zfs),(l.foldl (zct path) p).s.sched=p.s.sched
 | [],_=>rfl
 | i::l,p=>by
  rw [zy35,zsv l];unfold zct;split
  . rfl
  . split
    . exact yfv _ _ _
    . rfl
theorem yps {N:Nat}:∀ (n:Nat) {p:zfs},SI N p.s->SL p.s->SL (zga n p).s
 | 0,_,_,h=>h
 | n+1,p,hS,h=>by
  rw [zga];cases hq:next p with
  | none=>exact h
  | some q=>exact yps n (yde hS hq) (xjh hS hq)
theorem xjv {N:Nat} {s:zab} (hS:SI N s) (h:SL s):SL (zfc s).1:=by
 have h1:=yvo h;have s1:=(zmi hS).1;have s2:=znl (o:=List.replicate s.paths.length []) s1;have h2:SL (forward ⟨expire s,List.replicate s.paths.length []⟩).s:=h1.side (ycf _);have h3:SL (again (forward ⟨expire s,List.replicate s.paths.length []⟩)).s:=h2.side (zsv _ _);exact (yps 61 (zue s2) h3).side rfl
theorem xjc {c:Config} (h:zob c=0):SL (zrx c):=by
 have hw:=zca h;have e1:(zrx c).sched=Sch.new c.streams:=rfl;unfold SL;rw [e1];unfold Sch.new;dsimp only;rw [zbg (by omega) (by omega),zy57];omega
end Snd
namespace Ln
open Ser
theorem yon {back:Bool}:∀ (cs:List Chunk) {x:zdi×Bool},Snd.SL x.1.sender->Snd.SL (cs.foldl (zgz back) x).1.sender
 | [],_,h=>h
 | c::cs,x,h=>by
  refine yon (back:=back) cs ?_;unfold zgz;split
  . exact Snd.xin h c
  split
  . exact h
  split
  . exact h
  . exact h
theorem xhk {l:zdi} (h:Snd.SL l.sender) (p:zba):Snd.SL (zfm l p).sender:=by
 have h2:Snd.SL (zik l p).1.sender:=yon (back:=p.back) _ (x:=(l,false)) h;unfold zfm;split
 . exact h
 split
 . unfold told;split<;>exact h2
 . exact h2
theorem zwa {N:Nat} {l:zdi} (hS:Snd.SI N l.sender) (h:Snd.SL l.sender):Snd.SL (emit l).sender:=Snd.xjv hS h
theorem ynk {N M:Nat} {l:zdi} (h:LI N M l) (hl:Snd.SL l.sender) (x:Step) (hN:N+1<=2 ^ 20) (hM:M+120<=2000000):Snd.SL (doS l x).1.sender:=by
 unfold doS;split
 . split
   . rename_i e
     exact zwa (l:={l with sender:=Snd.zgb l.sender x.message}) (Snd.zxp h.snd e hN) (hl.side rfl)
   . exact hl
 split
 . split
   . exact hl
   split
   . exact hl
   rename_i p hp;have hb:=h.bytes p (zy5 hp);split
   . exact zwa (l:={l with way:=zrd l.way [p]}) h.snd hl
   . split
     . exact zwa (ykk (l:={l with way:=l.way.eraseIdx x.n.toNat}) ⟨h.snd,h.rcv,h.small,by show (l.way.eraseIdx _).length<=40;have:=h.way;rw [zy105];split<;>omega,fun q hq=>h.bytes q (zy65 hq)⟩ hb hM).snd (xhk (l:={l with way:=l.way.eraseIdx x.n.toNat}) hl p)
     . exact zwa (l:={l with way:=l.way.eraseIdx x.n.toNat}) h.snd hl
 split
 . exact zwa (l:={l with sender:=Snd.tick l.sender}) (Snd.zyg h.snd) (Snd.xko hl)
 . exact hl
end Ln
namespace Ln
open Ser
abbrev xnk (l:List Answer):zad:=.live (.row 81 2 (l.map Answer.row))
abbrev xnr (l:List Step):HV:=.p (.sl 7 (l.map Step.row))
abbrev lnL (l:zdi):zad:=.live (.cells 40 l.cells)
abbrev xlj:List HV:=[i64 0,i64 0,i64 0,i64 0,i64 0,i64 0,i64 0,i64 0,zhh,i64 0,i64 0,zhh,zhh,zhh,i64 0,i64 0,i64 0,zhh,zhh,zbm false,i64 0,i64 0,i64 0,i64 0,i64 0,i64 0,i64 0,i64 0,i64 0,zhh,zhh,zhh,zhh,zhh]
def zoe (c:Config) (l:List Step):zdi×List Answer×Int :=
 if Snd.zob c≠0 then (noL,[],Snd.zob c) else if l.length>200 then (noL,[],5) else ((zfq (zic c) l).1,(zfq (zic c) l).2,0)
theorem yyt (l:zdi) (A:List Step) (x:Step):zfq l (A++[x])=((doS (zfq l A).1 x).1,(zfq l A).2++[(doS (zfq l A).1 x).2]):=by
 rw [zqf];rfl
theorem yjn (c:Config) (l:List Step) (h:Snd.zob c≠0\/l.length>200) :
 zao Tryz.prog 21 [c.hv,xnr l] zaf (.tup [(zoe c l).1.hv,.p (.sl 2 ((zoe c l).2.1.map Answer.row)),i64 (zoe c l).2.2]) zaf:=by
 refine zap mixed Tryz.func21 zz5 ?_;generalize hT:zoe c l=T;rw [zoe] at hT;(conv=>whnf);have pn:=yjg c;by_cases c1:Snd.zob c=0
 case neg =>
  rw [zy1 c1] at hT;subst hT;rw [show ylp c=(noL,Snd.zob c) from zy0 c1] at pn
  (refine cP ?_;refine dL pn ?_)
  rw [show (Snd.zob c != 0)=true from zy135.2 c1];(conv=>whnf)
  try rfl
 case pos =>
  rw [zy0 (fun h=>h c1)] at hT;rw [show ylp c=(zic c,0) from zy1 c1] at pn
  (refine cP ?_;refine dL pn ?_)
  repeat refine sG ?_
  have c2:l.length>200:=h.resolve_left (fun h=>h c1);rw [zy1 c2] at hT;subst hT;refine zai zz4 (zw ?_)
  try rfl
theorem ytq (c:Config) (l:List Step) (c1:Snd.zob c=0) (c2:¬ l.length>200) (hb:∀ x∈l,x.message.data.length<2 ^ 38) :
 zao Tryz.prog 21 [c.hv,xnr l] zaf (.tup [(zoe c l).1.hv,.own 0,i64 (zoe c l).2.2]) (lk .free [(0,xnk (zoe c l).2.1)]):=by
 refine zan mixed Tryz.func21 zz5 [] (fun _=>.inl rfl) ?_;generalize hT:zoe c l=T;rw [zoe,zy0 (fun h=>h c1),zy0 c2] at hT;(conv=>whnf);have pn:=yjg c;rw [show ylp c=(zic c,0) from zy1 c1] at pn
 (refine cP ?_;refine dL pn ?_)
 repeat refine sG ?_
 refine zah zz4 (zw ?_)
 repeat refine sG ?_
 refine ⟨{x:(zdi×List Answer)×List Step×List Step // l=x.2.1++x.2.2/\zfq (zic c) x.2.1=x.1/\LI x.2.1.length (120*x.2.1.length) x.1.1},fun | ⟨((y,az),A,B),_⟩=>hs 47 [(4,.ptr 4 0),(7,.ptr 7 0),(9,.own 900),(27,xnr l),(28,i64 l.length),(29,i64 A.length)] [(4,.live (.cells 40 xlj)),(7,lnL y),(900,xnk az)],fun x=>x.1.2.2.length,⟨((zic c,[]),[],l),rfl,rfl,ydd c1⟩,?_,?_⟩
 . exact (zem [(4,some 4),(7,some 7),(900,none)])
 rintro ⟨⟨⟨y,az⟩,A,B⟩,k1,k2,k3⟩;dsimp only at k1 k2 k3;(conv=>whnf);cases B with
 | cons x B =>
  have hz:=zch k1;have hxd:=hb x (zlx k1);have hnx:=yyt (zic c) A x;rw [k2] at hnx;dsimp only at hnx;have hli:=zvw k3 x zz0 zz0;have pd:=ymg y x k3 zz0 zz0 hxd;have hal:az.length=A.length:=by have:=ydm A (zic c);rw [k2] at this;exact this
  generalize doS y x=D at hnx hli pd;obtain ⟨z,a⟩:=D;dsimp only at hnx hli;refine sT ?_;refine zal k1 rfl (zw ?_)
  (refine cP ?_;refine dL pd ?_)
  refine zaa (c:=((az.map Answer.row).length+1)*16<=140737488355328) zz15 (zw ?_);refine sF ?_;exact ⟨⟨((z,az++[a]),A++[x],B),zas k1,hnx,by rw [zy4,zy48,show 120*(A.length+1)=120*A.length+120 by omega];exact hli⟩,(zcy [(4,some 4),(7,some 7),(900,some 43)] (by repeat' (first | exact z0 | refine z1 ?_ | refine ⟨?_,?_⟩ | ((exact zce (f:=Answer.row) rfl rfl)) | exact z2))),by simp⟩
 | nil =>
  have hz:=zde k1;rw [zy9] at k1;rw [<- k1] at k2;rw [k2] at hT;subst hT;refine sN ?_;exact zam [(0,some 900)] rfl rfl trivial rfl rfl ⟨⟨rfl,.inl ⟨900,rfl,rfl⟩⟩,trivial⟩
theorem yjm (c:Config) (l:List Step) (hb:∀ x∈l,x.message.data.length<2 ^ 38) :
 zao Tryz.prog 21 [c.hv,xnr l] zaf (.tup [(zoe c l).1.hv,.p (.sl 2 ((zoe c l).2.1.map Answer.row)),i64 (zoe c l).2.2]) zaf:=by
 by_cases h:Snd.zob c≠0\/l.length>200
 . exact yjn c l h
 have h:=not_or.1 h;refine zcl Tryz.func21 (ytq c l (Decidable.not_not.1 h.1) h.2 hb) ?_;generalize zoe c l=d;(conv=>whnf)
 rfl
end Ln
namespace Ln
open Ser
theorem yys:∀ (a:List Step) {N M:Nat} {l:zdi},LI N M l->Snd.SL l.sender->N+a.length<=2 ^ 20->M+120*a.length<=2000000->Snd.SL (zfq l a).1.sender
 | [],_,_,_,_,h,_,_=>h
 | x::a,N,M,l,hl,h,h1,h2=>by
  simp only [zy8] at h1 h2;exact yys a (zvw hl x zz0 zz0) (ynk hl h x zz0 zz0) zz0 zz0
end Ln
namespace Snd
open Ser
end Snd
namespace Ln
open Ser
end Ln
namespace Snd
open Ser
end Snd
namespace Ln
open Ser Snd
def stp (k:Int):Step:=⟨k,0,⟨0,false,0,0,[]⟩⟩
end Ln
namespace Ln
open Ser
def zpl:Nat->zdi->zdi
 | 0,l=>l
 | n+1,l=>zpl n (doS l (stp 2)).1
def round (l:zdi):zdi:=(doS (zpl l.way.length l) (stp 5)).1
theorem zvr:∀ (n:Nat) (l:zdi),zpl (n+1) l=(doS (zpl n l) (stp 2)).1
 | 0,_=>rfl
 | n+1,l=>by rw [zpl,zvr n];rfl
theorem zvq:∀ (n:Nat) {N M:Nat} {l:zdi},LI N M l->N+n<=2 ^ 20->M+120*n<=2000000->LI (N+n) (M+120*n) (zpl n l)
 | 0,_,_,_,h,_,_=>h
 | n+1,N,M,l,h,h1,h2=>by
  have:=zvq n (zvw h (stp 2) zz0 zz0) zz0 zz0;rw [show N+(n+1)=N+1+n by omega,show M+120*(n+1)=M+120+120*n by omega];exact this
theorem yfd:∀ (n:Nat) {N M:Nat} {l:zdi},LI N M l->Snd.SL l.sender->N+n<=2 ^ 20->M+120*n<=2000000->Snd.SL (zpl n l).sender
 | 0,_,_,_,_,h,_,_=>h
 | n+1,N,M,l,h,hs,h1,h2=>yfd n (zvw h (stp 2) zz0 zz0) (ynk h hs (stp 2) zz0 zz0) zz0 zz0
section
variable {N M:Nat} {l:zdi}
theorem yqh (h:LI N M l) (h1:N+41<=2 ^ 20) (h2:M+4920<=2000000):LI (N+41) (M+4920) (round l):=by
 have hw:=h.way;have:=zvw (zvq l.way.length h zz0 zz0) (stp 5) zz0 zz0;exact ⟨this.snd.mono zz0 zz0,this.rcv.more zz0,by omega,this.way,this.bytes⟩
theorem yqi (h:LI N M l) (hs:Snd.SL l.sender) (h1:N+41<=2 ^ 20) (h2:M+4920<=2000000):Snd.SL (round l).sender:=by
 have hw:=h.way;exact ynk (zvq l.way.length h zz0 zz0) (yfd _ h hs zz0 zz0) (stp 5) zz0 zz0
end
theorem yay {N M:Nat} (l:zdi) (h:LI N M l) (hsl:Snd.SL l.sender) (h1:N+41<=2 ^ 20) (h2:M+4920<=2000000):zao Tryz.prog 48 [l.hv] zaf (round l).hv zaf:=by
 have hw:=h.way;refine zap mixed Tryz.func48 zz5 ?_;(conv=>whnf);generalize hT:round l=T;refine ⟨{x:(Nat×Nat)×zdi // l.way.length=x.1.1+x.1.2/\zpl x.1.1 l=x.2/\LI (N+x.1.1) (M+120*x.1.1) x.2/\Snd.SL x.2.sender},fun | ⟨((k,_),y),_⟩=>hs 22 [(1,.ptr 1 0),(2,.ptr 2 0),(5,i64 l.way.length),(6,i64 k)] [(1,lnL y),(2,.live (.cells 40 xlj))],fun x=>x.1.1.2,⟨((0,l.way.length),l),by simp,rfl,h,hsl⟩,?_,?_⟩
 . exact (zem [(1,some 1),(2,some 2)])
 rintro ⟨⟨⟨k,d⟩,y⟩,k1,k2,k3,k4⟩;dsimp only at k1 k2 k3 k4;refine zhm fun Q hQ=>?_
 (conv=>whnf);cases d with
 | succ d =>
  have hli:=zvw k3 (stp 2) zz0 zz0;have hsl2:=ynk k3 k4 (stp 2) zz0 zz0;have hnx:=zvr k l;rw [k2] at hnx;have pd:=ymg y (stp 2) k3  zz0 zz0 zz5;generalize doS y (stp 2)=D at hli hsl2 hnx pd;obtain ⟨z,a⟩:=D;dsimp only at hli hsl2 hnx pd;refine sT ?_
  (refine cP ?_;refine dL pd ?_)
  refine sF ?_;refine hQ _ _ ?_;conv=>whnf
  exact ⟨⟨((k+1,d),z),by show l.way.length=k+1+d;omega,hnx,by rw [show N+(k+1)=N+k+1 by omega,show M+120*(k+1)=M+120*k+120 by omega];exact hli,hsl2⟩,(zem [(1,some 1),(2,some 2)]),by simp⟩
 | zero =>
  have hk:k=l.way.length:=by omega
  subst hk;have pd:=ymg y (stp 5) k3  zz0 zz0 zz5;have hT:(doS y (stp 5)).1=T:=by rw [<- hT];unfold round;rw [k2]
  generalize doS y (stp 5)=D at hT pd;obtain ⟨z,a⟩:=D;dsimp only at hT pd;subst hT;refine sN ?_;refine hQ _ _ ?_;conv=>whnf
  (refine cP ?_;refine dL pd ?_)
  try rfl
end Ln
namespace Ln
open Ser
def busy (l:zdi):Bool:=!(Snd.calm l.sender)||decide (0<l.way.length)
def zfb:Nat->zdi->zdi×Nat
 | 0,l=>(l,0)
 | n+1,l=>if busy l then ((zfb n (round l)).1,(zfb n (round l)).2+1) else (l,0)
theorem zsk {n:Nat} {l:zdi} (h:n=0\/busy l=false):zfb n l=(l,0):=by
 cases n with
 | zero=>rfl
 | succ n=>rw [zfb,zy0 (by rw [h.resolve_left (by omega)];decide)]
theorem zlp {n:Nat} {l:zdi} (h:busy l=true):zfb (n+1) l=((zfb n (round l)).1,(zfb n (round l)).2+1):=by rw [zfb,zy1 h]
theorem xbe (l:zdi):busy l=decide (0<l.way.length+l.sender.queue.length+l.sender.out.length):=by
 unfold busy Snd.calm;by_cases h:0<l.way.length+l.sender.queue.length+l.sender.out.length
 . rw [zy12 h]
   simp only [zy74,zy61,Bool.and_eq_false_iff,zy50,zy41];omega
 . rw [zy20 h]
   simp only [Bool.or_eq_false_iff,zy68,zy14,zy50,zy41];omega
theorem zdz {N M:Nat} (l:zdi) (h:LI N M l) (hsl:Snd.SL l.sender) (h1:N+16400<=2 ^ 20) (h2:M+1968000<=2000000):zao Tryz.prog 24 [l.hv] zaf (.tup [(zfb 400 l).1.hv,i64 (zfb 400 l).2]) zaf:=by
 refine zap mixed Tryz.func24 zz5 ?_;generalize hT:zfb 400 l=T;(conv=>whnf)
 (refine cP ?_;refine dL (zdm l h) ?_)
 refine ⟨{x:Nat×zdi // x.1<=400/\((zfb (400-x.1) x.2).1=T.1/\(zfb (400-x.1) x.2).2+x.1=T.2)/\LI (N+41*x.1) (M+4920*x.1) x.2/\Snd.SL x.2.sender},fun | ⟨(k,y),_⟩=>hs 28 [(1,.ptr 1 0),(2,.ptr 2 0),(4,.ptr 4 0),(5,i64 k)] [(1,lnL l),(2,.live (.cells 40 xlj)),(4,lnL y)],fun x=>400-x.1.1,⟨(0,l),by omega,by rw [<- hT];exact ⟨rfl,rfl⟩,h,hsl⟩,?_,?_⟩
 . exact (zem [(1,some 1),(2,some 2),(4,some 4)])
 rintro ⟨⟨k,y⟩,k1,k2,k3,k4⟩;dsimp only at k1 k2 k3 k4;refine zhm fun Q hQ=>?_
 (conv=>whnf);have pc:=Snd.yzr y.sender;by_cases c1:k<400
 case neg =>
  have hk:k=400:=by omega
  rw [hk,zsk (.inl (by omega))] at k2;refine zah (zy20 zz0) (zw ?_);exact yy79
 refine zai (zy12 zz0) (zw ?_)
 (refine cL ?_;refine dLm pc ?_)
 have hb0:busy y=(!(Snd.calm y.sender)||decide (0<y.way.length)):=rfl;cases hc:Snd.calm y.sender with
 | false =>
  (conv=>whnf);have hbz:busy y=true:=by rw [hb0,hc];rfl
  exact yy16
 | true =>
 (conv=>whnf);by_cases c2:0<y.way.length
 case pos =>
  have hbz:busy y=true:=by rw [hb0,hc,zy12 c2];rfl
  rw [show decide (((y.way.map zba.row).length:Int)>0)=true from zy12 (by rw [zy3];omega)];(conv=>whnf);exact yy16
 case neg =>
  have hbz:busy y=false:=by rw [hb0,hc,zy20 c2];rfl
  rw [show decide (((y.way.map zba.row).length:Int)>0)=false from zy20 (by rw [zy3];omega)];(conv=>whnf);rw [zsk (.inr hbz)] at k2;exact yy79
end Ln
namespace Rcv
open Srt Jn Ser
theorem ygz {n:Nat}:∀ {S:List zav} {i:Nat} {b:List UInt8},zji n i S=some b->∀ k (hk:k<S.length),S[k].chunk.part=((i+k:Nat):Int)/\S[k].chunk.last=decide (i+k+1=n)
 | p::r,i,b,h,k,hk=>by
  rw [zji] at h;split at h
  . rename_i c
    obtain ⟨d,hd,-⟩:=zy32.1 h;cases k with
    | zero=>exact ⟨c.1,c.2⟩
    | succ k =>
     have:=ygz hd k (by simpa using hk);rw [zy165,show i+(k+1)=i+1+k by omega];exact this
  . cases h
def msg (s j:Nat) (X:List Chunk):List Chunk:=X.filter fun c=>decide (c.stream=s)&&decide (c.mid=j)
section
variable {C X Y:List Chunk} {M:Nat->List (List UInt8)} {r:Receiver} {T:Nat->Nat}
end
end Rcv
namespace Sch
section
variable {α:Type} {p:α->Bool}
theorem yoy:∀ {l:List α} {k:Nat},zbs p k l<0->∀ x∈l,p x=false
 | [],k,_,x,hx=>by cases hx
 | y::r,k,h,x,hx=>by
  simp only [zbs] at h;split at h
  . omega
  . rename_i hp
    rcases zy18.1 hx with rfl | hx
    . simpa using hp
    . exact yoy h x hx
theorem zup:∀ {l:List α} {k:Nat},0<=zbs p k l->∃ i,∃ h:i<l.length,zbs p k l=((k+i:Nat):Int)/\p l[i]=true/\∀ j,(hj:j<i)->p (l[j]'(Nat.lt_trans hj h))=false
 | [],k,h=>by simp [zbs] at h
 | y::r,k,h=>by
  simp only [zbs] at h ⊢;by_cases hp:p y=true
  . exact ⟨0,by simp,by rw [zy1 hp];simp,by simpa using hp,fun j hj=>absurd hj zz0⟩
  . rw [zy0 hp] at h ⊢
    obtain ⟨i,h1,h2,h3,h4⟩:=zup h;refine ⟨i+1,by simp;omega,by rw [h2];congr 1;omega,by simpa using h3,fun j hj=>?_⟩;cases j with
    | zero=>simpa using hp
    | succ j=>simpa using h4 j zz0
end
def Good (q:List zae) (r:Int):Prop:=∃ k,∃ h:k<q.length,r=k/\∀ m∈q.take k,m.message.stream≠(q[k]).message.stream
theorem zrm {q:List zae} {st:Int} (h:0<=first q st):Good q (first q st):=by
 obtain ⟨i,h1,h2,h3,h4⟩:=zup h;refine ⟨i,h1,by rw [first,h2];simp,fun m hm=>?_⟩;obtain ⟨j,hj,rfl⟩:=zy129 hm;have hji:j<i:=by simp at hj;omega
 have h5:=h4 j hji;rw [List.getElem_take];simp only [zy44,zy21] at h3 h5;rw [h3];exact h5
theorem zrf {q:List zae} {last n:Int}:∀ {j k:Nat},0<=after q last n k j->Good q (after q last n k j)
 | 0,k,h=>by simp [after] at h
 | j+1,k,h=>by
  simp only [after] at h ⊢;split
  . rename_i h1;exact zrm h1
  . rename_i h1
    rw [zy0 h1] at h;exact zrf h
theorem yih {q:List zae}:∀ {j k:Nat},0<=zer q k j->Good q (zer q k j)
 | 0,k,h=>by simp [zer] at h
 | j+1,k,h=>by
  simp only [zer] at h ⊢;split
  . rename_i h1;exact zrm h1
  . rename_i h1
    rw [zy0 h1] at h;exact yih h
end Sch
namespace Gh
open Ser Srt Jn
structure Prt where
 id:Nat
 chunk:Chunk
def Cls (a b:Chunk):Prop:=a.stream=b.stream/\a.ordered=b.ordered
theorem Cls.symm {a b:Chunk} (h:Cls a b):Cls b a:=⟨h.1.symm,h.2.symm⟩
theorem Cls.trans {a b c:Chunk} (h:Cls a b) (k:Cls b c):Cls a c:=⟨h.1.trans k.1,h.2.trans k.2⟩
structure zst (P:Int) (m:Message) (x:Chunk):Prop where
 part0:0<=x.part
 inn:x.part*P<m.data.length
 data:x.data=(m.data.drop (x.part*P).toNat).take P.toNat
 last:x.last=decide ((m.data.length:Int)<=x.part*P+P)
structure HI (c:Config) (L:List Message) (H:List Prt):Prop where
 tag:∀ (i:Nat) x,H[i]?=some x->x.chunk.kind=1/\x.chunk.tag=tag (c.first+i)/\x.chunk.zaq=[]/\x.chunk.room=0/\x.chunk.zbv=[]
 msg:∀ x∈H,∃ m,L[x.id]?=some m/\x.chunk.stream=m.stream/\x.chunk.ordered=m.ordered/\(x.chunk.data≠[]->zst c.part m x.chunk)
 mid:∀ x∈H,0<=x.chunk.mid/\x.chunk.mid<H.length
 key:∀ x∈H,∀ y∈H,Cls x.chunk y.chunk->(x.id<y.id↔x.chunk.mid<y.chunk.mid)
 order:∀ (i j:Nat) x y,i<j->H[i]?=some x->H[j]?=some y->Cls x.chunk y.chunk->x.id<=y.id
 part:∀ (i j:Nat) x y,i<j->H[i]?=some x->H[j]?=some y->x.id=y.id->x.chunk.part<y.chunk.part
section
variable {c:Config} {L:List Message} {H:List Prt}
theorem HI.cls (h:HI c L H) {x y:Prt} (hx:x∈H) (hy:y∈H) (e:x.id=y.id):Cls x.chunk y.chunk:=by
 obtain ⟨m,h1,h2,h3,-⟩:=h.msg x hx;obtain ⟨n,k1,k2,k3,-⟩:=h.msg y hy;rw [e,k1] at h1;cases h1;exact ⟨h2.trans k2.symm,h3.trans k3.symm⟩
theorem HI.same (h:HI c L H) {x y:Prt} (hx:x∈H) (hy:y∈H) (e:Cls x.chunk y.chunk):x.id=y.id↔x.chunk.mid=y.chunk.mid:=by
 have h1:=h.key x hx y hy e;have h2:=h.key y hy x hx e.symm;omega
theorem HI.at (h:HI c L H) {i j:Nat} {x y:Prt} (hx:H[i]?=some x) (hy:H[j]?=some y) (e:x.id=y.id) (e2:x.chunk.part=y.chunk.part):i=j:=by
 rcases Nat.lt_trichotomy i j with hl | hl | hl
 . have:=h.part i j x y hl hx hy e;omega
 . exact hl
 . have:=h.part j i y x hl hy hx e.symm;omega
end
theorem yha {P:Int} {m:Message} (hP:1<=P) {n:Nat}:∀ {S:List zav} {i:Nat} {b:List UInt8},zji n i S=some b->(∀ p∈S,zst P m p.chunk)->S≠[]->n=i+S.length->b=m.data.drop (i*P).toNat
 | [],_,_,_,_,h,_=>absurd rfl h
 | p::r,i,b,h,hp,_,hn=>by
  rw [zji] at h;split at h
  . rename_i c
    obtain ⟨d,hd,rfl⟩:=zy32.1 h;have hq:=hp p zz3;have h0:0<=(i:Int)*P:=zy141 zz0 zz0;have e1:((i+1:Nat):Int)*P=i*P+P:=by push_cast;rw [Int.add_mul,Int.one_mul]
    have e2:(((i+1:Nat):Int)*P).toNat=(i*P).toNat+P.toNat:=by rw [e1];omega
    rw [hq.data,c.1];cases r with
    | nil =>
     rw [zji] at hd;cases hd;have hl:=hq.last;rw [c.2,c.1] at hl;rw [zy12 (by simp at hn;omega)] at hl;have hl:=zy39 hl.symm;rw [zy9,zy34 (by rw [zy37];omega)]
    | cons q r =>
     have ih:=yha hP hd (fun x hx=>hp x zz28) zz3 (by simp at hn ⊢;omega);rw [ih,e2,<- zy117,zy28]
  . cases h
theorem xcs {P:Int} {m:Message} (hP:1<=P) {l:List zav} {b:List UInt8} (h:join l=some b) (hp:∀ p∈l,zst P m p.chunk):b=m.data:=by
 unfold join at h;split at h
 . cases h
 . rename_i hl
   have hs:=zhq (key:=ck) l;have:=yha hP h (fun p hp'=>hp p (zlv.mem_iff.1 hp')) (by intro e;rw [e] at hs;exact hl (zy49.1 hs.symm)) zz0
   simpa using this
theorem znn {l:List zav} {b:List UInt8} (h:join l=some b):∀ i:Nat,i<l.length->∃ p∈l,p.chunk.part=(i:Int)/\p.chunk.last=decide (i+1=l.length):=by
 intro i hi;unfold join at h;split at h
 . cases h
 . have hs:=zhq (key:=ck) l
   obtain ⟨g1,g2⟩:=Rcv.ygz h i zz0;rw [zy58] at g1 g2;exact ⟨_,zlv.mem_iff.1 (zy81 zz0),g1,g2⟩
theorem yhn:∀ (k:Nat) (l:List Nat),l.Nodup->(∀ x∈l,x<k)->l.length<=k
 | 0,l,_,h=>by
  cases l with
  | nil=>simp
  | cons x r=>exact absurd (h x zz3) zz0
 | k+1,l,hn,h=>by
  have ih:=yhn k (l.erase k) (hn.erase k) (fun x hx=>by
   have h1:=h x (List.mem_of_mem_erase hx);have h2:x≠k:=fun e=>by subst e;exact (hn.not_mem_erase) hx
   omega)
  rw [List.length_erase] at ih;split at ih<;>omega
theorem ypf {n:Nat}:∀ {S:List zav} {i:Nat},(∀ k (hk:k<S.length),S[k].chunk.part=((i+k:Nat):Int)/\S[k].chunk.last=decide (i+k+1=n))->∃ b,zji n i S=some b
 | [],i,_=>⟨[],rfl⟩
 | p::r,i,h=>by
  have h0:=h 0 zz3;obtain ⟨b,hb⟩:=ypf (S:=r) (i:=i+1) fun k hk=>by
   have:=h (k+1) (by simpa using hk);rw [zy165] at this;rw [show i+1+k=i+(k+1) by omega];exact this
  refine ⟨p.chunk.data++b,?_⟩;rw [zji,zy1 ⟨by simpa using h0.1,by simpa using h0.2⟩,hb];rfl
theorem ysk {P:Int} {m:Message} (hP:1<=P) {l:List zav} (h:∀ p∈l,zst P m p.chunk) (hd:l.Pairwise fun p q=>p.chunk.part≠q.chunk.part) (hm:m.data≠[])
 (hw:∀ j:Nat,(j:Int)*P<m.data.length->∃ p∈l,p.chunk.part=j):∃ b,join l=some b:=by
 have hmul:∀ {a b:Int},a<=b->a*P<=b*P:=fun hab=>zy109 hab zz0
 have h0:(0:Int)<m.data.length:=by have:=zy30.2 hm;omega
 have hnd:(l.map fun p=>p.chunk.part.toNat).Nodup:=by
  refine List.Pairwise.map _ (fun a b=>?_) (List.Pairwise.imp_of_mem (fun {a b} ha hb hab=>(⟨ha,hb,hab⟩:a∈l/\b∈l/\a.chunk.part≠b.chunk.part)) hd);rintro ⟨ha,hb,hab⟩ e;have:=(h a ha).part0;have:=(h b hb).part0;omega
 have hsl:=zhq (key:=ck) l;have hsm:∀ p,p∈srt ck l↔p∈l:=fun p=>zlv.mem_iff
 have hall:∀ i,i<l.length->∃ p∈l,p.chunk.part=(i:Int):=by
  intro i hi;by_cases c:(i:Int)*P<m.data.length
  . exact hw i c
  . exfalso
    have:=yhn i _ hnd fun x hx=>by
     obtain ⟨p,hp,rfl⟩:=zy23.1 hx;have h1:=(h p hp).inn;have h2:=(h p hp).part0;apply Classical.byContradiction;intro hc;have:=hmul (show (i:Int)<=p.chunk.part by omega);omega
    rw [zy3] at this;omega
 have hturn:=yjz (ztt (key:=ck) (l:=l)) fun i hi=>by
  obtain ⟨p,hp,e⟩:=hall i zz0;exact ⟨p,(hsm p).2 hp,e⟩
 have hbnd:(l.length:Int)*P>=m.data.length:=by
  apply Classical.byContradiction;intro hc;obtain ⟨p,hp,e⟩:=hw l.length zz0;obtain ⟨k,hk,e2⟩:=zy129 ((hsm p).2 hp);have:=hturn k hk;rw [e2] at this;omega
 have hlne:l≠[]:=by
  rintro rfl;have:(([]:List zav).length:Int)*P=0:=by simp
  omega
 obtain ⟨b,hb⟩:=ypf (n:=l.length) (S:=srt ck l) (i:=0) fun k hk=>by
  have hp:=hturn k hk;refine ⟨by rw [hp];simp,?_⟩;have hq:=h _ ((hsm _).1 (zy81 hk));rw [hq.last,hp,zy128];have e1:((k+1:Nat):Int)*P=k*P+P:=by push_cast;rw [Int.add_mul,Int.one_mul]
  constructor
  . intro hle
    apply Classical.byContradiction;intro hc;obtain ⟨p,hp2,e⟩:=hall (k+1) zz0;have:=(h p hp2).inn;rw [e] at this;omega
  . intro e
    have:(l.length:Int)*P=k*P+P:=by rw [<- e1];congr 1;omega
    omega
 exact ⟨b,by rw [join,zy0 hlne];exact hb⟩
theorem ysr {turns:Int} {s:ziu} {q:List zae} (h:0<=Sch.next turns s q):∃ k,∃ hk:k<q.length,Sch.next turns s q=k/\((q[k]).id=s.hand\/∀ m∈q.take k,m.message.stream≠(q[k]).message.stream):=by
 have zwk:∀ {r:Int},Sch.Good q r->∃ k,∃ hk:k<q.length,r=k/\((q[k]).id=s.hand\/∀ m∈q.take k,m.message.stream≠(q[k]).message.stream):=by
  rintro r ⟨k,hk,e,hg⟩;exact ⟨k,hk,e,.inr hg⟩
 unfold Sch.next at h ⊢;by_cases c1:(q.length:Int)=0
 . rw [zy1 c1] at h;omega
 rw [zy0 c1] at h ⊢;by_cases c2:(s.had.length:Int)=0
 . rw [zy1 c2] at h;omega
 rw [zy0 c2] at h ⊢;by_cases c3:turns=2
 . rw [zy1 c3] at h ⊢
   by_cases c4:Sch.zwp s q>=0
   . rw [zy1 c4]
     obtain ⟨i,h1,h2,h3,-⟩:=Sch.zup (p:=fun m:zae=>m.id==s.hand) (l:=q) (k:=0) c4;exact ⟨i,h1,by rw [Sch.zwp,h2,zy58],.inl (by simpa using h3)⟩
   . rw [zy0 c4] at h ⊢
     exact zwk (Sch.zrf h)
 rw [zy0 c3] at h ⊢;by_cases c4:turns=3
 . rw [zy1 c4] at h ⊢;exact zwk (Sch.zrf h)
 rw [zy0 c4] at h ⊢;by_cases c5:turns=4
 . rw [zy1 c5] at h ⊢;exact zwk (Sch.yih h)
 rw [zy0 c5] at h ⊢;by_cases c6:turns=5
 . rw [zy1 c6] at h ⊢
   unfold Sch.least at h ⊢;split at h
   . omega
   . rename_i c7;rw [zy0 c7];exact zwk (Sch.zrm h)
 rw [zy0 c6];exact ⟨0,by omega,rfl,.inr zz3⟩
end Gh
namespace Gh
open Ser Snd
def Of (m:zae) (x:Chunk):Prop:=x.stream=m.message.stream/\x.ordered=m.message.ordered
def Whole (c:Config) (L:List Message) (H:List Prt) (id:Nat):Prop:=∀ m,L[id]?=some m->∀ j:Nat,(j:Int)*c.part<m.data.length->∃ y∈H,y.id=id/\y.chunk.part=j/\y.chunk.data≠[]
def xax (s:zab) (x:Chunk):Int:=s.mids[(x.stream+if x.ordered then 0 else s.config.streams).toNat]?.getD 0
structure Bgn (H:List Prt) (m:zae):Prop where
 some:0<m.parts
 one:∃ y∈H,(y.id:Int)=m.id/\y.chunk.mid=m.mid/\Of m y.chunk
 top:∀ y∈H,Of m y.chunk->(y.id:Int)<=m.id
 part:∀ y∈H,(y.id:Int)=m.id->y.chunk.part<m.parts
 all:∀ j:Nat,(j:Int)<m.parts->∃ y∈H,(y.id:Int)=m.id/\y.chunk.part=j/\y.chunk.data≠[]
structure GS (c:Config) (L:List Message) (H:List Prt) (A:Nat->Prop) (s:zab):Prop where
 cfg:s.config=c
 hi:HI c L H
 len:c.first+H.length=s.next
 out:∀ (k:Nat) x,s.out[k]?=some x->∃ y,H[(s.cum+1-c.first).toNat+k]?=some y/\x.id=(y.id:Int)/\x.chunk=y.chunk
 stop:∀ x∈s.out,x.chunk.data=[]->x.state=4\/x.state=0
 gone:∀ x∈s.out,x.state=4->s.fates[x.id.toNat]?=some 3
 zfm:∀ (k:Nat) x,s.out[k]?=some x->x.state=2->A ((s.cum+1-c.first).toNat+k)
 done:∀ (i:Nat) y,H[i]?=some y->c.first+i<=s.cum->A i\/s.fates[y.id]?=some 3
 ids:∀ m∈s.queue,0<=m.id
 zfu:s.queue.Pairwise fun a b=>a.id<b.id
 hand:∀ m∈s.queue,m.id=s.sched.hand->0<=m.mid
 handn:s.sched.hand<L.length
 fresh:∀ m∈s.queue,m.mid<0->m.parts=0/\∀ y∈H,Of m y.chunk->(y.id:Int)<m.id
 begun:∀ m∈s.queue,0<=m.mid->Bgn H m
 mids:∀ y∈H,y.chunk.mid<xax s y.chunk
 midn:∀ n∈s.mids,0<=n/\n<=H.length
 whole:∀ id,id<L.length->s.fates[id]?≠some 3->(∃ m∈s.queue,m.id=(id:Int))\/Whole c L H id
 told:∀ id,s.fates[id]?=some 2->∀ (i:Nat) y,H[i]?=some y->y.id=id->A i
section
variable {c:Config} {L:List Message} {H:List Prt} {A:Nat->Prop} {s:zab}
theorem GS.congr {t:zab} (h:GS c L H A s) (e1:t.config=s.config) (e2:t.out=s.out) (e3:t.next=s.next) (e4:t.cum=s.cum) (e5:t.fates=s.fates) (e6:t.queue=s.queue) (e7:t.sched.hand=s.sched.hand) (e8:t.mids=s.mids):GS c L H A t:=by
 obtain ⟨cfg,clock,q,⟨la,ha,hd⟩,o,ps,cu,nx,ro,mi,fa,fo,re⟩:=t;dsimp only at e1 e2 e3 e4 e5 e6 e7 e8;subst e1 e2 e3 e4 e5 e6 e7 e8;exact ⟨h.cfg,h.hi,h.len,h.out,h.stop,h.gone,h.zfm,h.done,h.ids,h.zfu,h.hand,h.handn,h.fresh,h.begun,h.mids,h.midn,h.whole,h.told⟩
theorem GS.more {B:Nat->Prop} (h:GS c L H A s) (hB:∀ i,A i->B i):GS c L H B s :=
 ⟨h.cfg,h.hi,h.len,h.out,h.stop,h.gone,fun k x h1 h2=>hB _ (h.zfm k x h1 h2),fun i y h1 h2=>(h.done i y h1 h2).imp (hB i) id,h.ids,h.zfu,h.hand,h.handn,h.fresh,h.begun,h.mids,h.midn,h.whole,fun id h1 i y h2 h3=>hB i (h.told id h1 i y h2 h3)⟩
theorem zei {α:Type} {l:List α} {y x:α} {i:Nat} (h:(l++[y])[i]?=some x):l[i]?=some x\/(i=l.length/\x=y):=by
 rcases zy71 i l.length with hi | hi
 . rw [zy26 hi] at h;exact .inl h
 . rw [zy42 hi] at h
   rcases zy108 (i-l.length) with h0 | h0
   . rw [h0] at h;cases h;exact .inr ⟨by omega,rfl⟩
   . rw [zy52 (by simp;omega)] at h;cases h
theorem zjz {α:Type} {l E:List α} {x:α} {i:Nat} (h:l[i]?=some x):(l++E)[i]?=some x:=by
 rw [zy26 (zy11.1 h).1];exact h
theorem yuu {α:Type} (l:List α) (y:α):(l++[y])[l.length]?=some y:=by simp
theorem zci {α:Type} {l:List α} {x:α} {i:Nat} (h:l[i]?=some x):i<l.length:=(zy11.1 h).1
theorem HI.push (h:HI c L H) {y:Prt} (t:y.chunk.kind=1/\y.chunk.tag=Ser.tag (c.first+H.length)/\y.chunk.zaq=[]/\y.chunk.room=0/\y.chunk.zbv=[])
 (m:∃ m,L[y.id]?=some m/\y.chunk.stream=m.stream/\y.chunk.ordered=m.ordered/\(y.chunk.data≠[]->zst c.part m y.chunk)) (n:0<=y.chunk.mid/\y.chunk.mid<=H.length)
 (k:∀ x∈H,Cls x.chunk y.chunk->x.id<=y.id/\(x.id<y.id↔x.chunk.mid<y.chunk.mid)/\x.chunk.mid<=y.chunk.mid) (p:∀ x∈H,x.id=y.id->x.chunk.part<y.chunk.part):HI c L (H++[y]):=by
 refine ⟨fun i x hx=>?_,fun x hx=>?_,fun x hx=>?_,fun x hx z hz hc=>?_,fun i j x z hij hx hz hc=>?_,fun i j x z hij hx hz he=>?_⟩
 . rcases zei hx with hx' | ⟨e1,e2⟩
   . exact h.tag i x hx'
   . rw [e1,e2];exact t
 . rcases zy10.1 hx with hx' | hx'
   . exact h.msg x hx'
   . rw [zy7.1 hx'];exact m
 . rw [zy4,zy48]
   rcases zy10.1 hx with hx' | hx'
   . have:=h.mid x hx';push_cast;omega
   . rw [zy7.1 hx'];push_cast;omega
 . rcases zy10.1 hx with hx' | hx'
   . rcases zy10.1 hz with hz' | hz'
     . exact h.key x hx' z hz' hc
     . rw [zy7.1 hz'] at hc ⊢;exact (k x hx' hc).2.1
   . rw [zy7.1 hx'] at hc ⊢
     rcases zy10.1 hz with hz' | hz'
     . have:=k z hz' hc.symm;omega
     . rw [zy7.1 hz'];omega
 . rcases zei hz with hz' | ⟨e1,e2⟩
   . rcases zei hx with hx' | ⟨e3,e4⟩
     . exact h.order i j x z hij hx' hz' hc
     . have:=zci hz';omega
   . rcases zei hx with hx' | ⟨e3,e4⟩
     . rw [e2] at hc ⊢;exact (k x (zy5 hx') hc).1
     . omega
 . rcases zei hz with hz' | ⟨e1,e2⟩
   . rcases zei hx with hx' | ⟨e3,e4⟩
     . exact h.part i j x z hij hx' hz' he
     . have:=zci hz';omega
   . rcases zei hx with hx' | ⟨e3,e4⟩
     . rw [e2] at he ⊢;exact p x (zy5 hx') he
     . omega
theorem Whole.more {E:List Prt} {id:Nat} (h:Whole c L H id):Whole c L (H++E) id:=fun m hm j hj=>by
 obtain ⟨y,h1,h2⟩:=h m hm j hj;exact ⟨y,zy67 _ h1,h2⟩
theorem GS.num (h:GS c L H A s) {N:Nat} (hs:SI N s):(s.cum+1-c.first).toNat+s.out.length=H.length:=by
 have h1:=h.len;have h2:=hs.next;have h3:=hs.cum;rw [h.cfg] at h3;omega
theorem GS.few (h:GS c L H A s) {N:Nat} (hs:SI N s):H.length<=61*N:=by
 have h1:=h.len;have h3:=hs.owes;have h4:=zxa (by have:=zca hs.cfg;omega) hs.queue;have h5:=hs.many;rw [h.cfg] at h3;omega
theorem yfo (id:Int):∀ (q:List zae) (s:zab),(∀ m∈q,¬ (m.id=id/\m.parts>0))->q.foldl (zes id) s=s
 | [],_,_=>rfl
 | m::q,s,h=>by
  rw [zy35,show zes id s m=s from zy0 (h m (by simp))];exact yfo id q s fun x hx=>h x zz28
theorem ynr (id:Int):∀ (q:List zae) (s:zab),q.Pairwise (fun a b=>a.id<b.id)->q.foldl (zes id) s=s\/∃ m∈q,m.id=id/\m.parts>0/\q.foldl (zes id) s={s with out:=s.out++[zhv s.next m],next:=W (s.next+1)}
 | [],_,_=>.inl rfl
 | m::q,s,h=>by
  obtain ⟨h1,h2⟩:=zy133.1 h;rw [zy35];by_cases c:m.id=id/\m.parts>0
  . right
    refine ⟨m,by simp,c.1,c.2,?_⟩;rw [show zes id s m={s with out:=s.out++[zhv s.next m],next:=W (s.next+1)} from zy1 c];exact yfo id q _ fun x hx hh=>by have:=h1 x hx;omega
  . rw [show zes id s m=s from zy0 c]
    rcases ynr id q s h2 with h3 | ⟨x,hx,h3⟩
    . exact .inl h3
    . exact .inr ⟨x,by simp [hx],h3⟩
theorem GS.fate (h:GS c L H A s) (id:Nat):GS c L H A {s with fates:=s.fates.set id 3}:=by
 have hg:∀ k:Nat,s.fates[k]?=some 3->(s.fates.set id 3)[k]?=some 3:=fun k hk=>by
  by_cases e:id=k
  . subst e;rw [zy17 (zci hk)]
  . rw [zy29 e];exact hk
 refine ⟨h.cfg,h.hi,h.len,h.out,h.stop,fun x hx h4=>hg _ (h.gone x hx h4),h.zfm,fun i y h1 h2=>(h.done i y h1 h2).imp (fun z=>z) (hg _),h.ids,h.zfu,h.hand,h.handn,h.fresh,h.begun,h.mids,h.midn,fun k hk h3=>?_,fun k h2=>?_⟩
 . exact h.whole k hk fun h5=>h3 (hg k h5)
 . have h2:(s.fates.set id 3)[k]?=some 2:=h2
   by_cases e:id=k
   . subst e
     rcases zy71 id s.fates.length with hl | hl
     . rw [zy17 hl] at h2;cases h2
     . rw [zy52 (by rw [zy25];exact hl)] at h2;cases h2
   . rw [zy29 e] at h2;exact h.told k h2
theorem GS.leave (h:GS c L H A s) {id:Nat} (hf:s.fates[id]?=some 3) {w:Int} (hw:w=s.sched.hand\/w=-1):GS c L H A {s with queue:=s.queue.filter (fun m=>decide (m.id≠(id:Int))),sched:={s.sched with hand:=w}}:=by
 have hm:∀ m∈s.queue.filter (fun m=>decide (m.id≠(id:Int))),m∈s.queue:=fun m hm=>(zy54.1 hm).1
 refine ⟨h.cfg,h.hi,h.len,h.out,h.stop,h.gone,h.zfm,h.done,fun m h1=>h.ids m (hm m h1),h.zfu.filter _,fun m h1 h2=>?_,?_,fun m h1=>h.fresh m (hm m h1),fun m h1=>h.begun m (hm m h1),h.mids,h.midn,fun k hk h3=>?_,h.told⟩
 . have h2:m.id=w:=h2
   rcases hw with hw | hw
   . exact h.hand m (hm m h1) (by rw [h2,hw])
   . have:=h.ids m (hm m h1);omega
 . have:=h.handn
   show w<_;rcases hw with hw | hw<;>omega
 . rcases h.whole k hk h3 with ⟨m,h4,h5⟩ | h4
   . by_cases e:k=id
     . subst e;exact absurd hf h3
     . exact .inl ⟨m,zy54.2 ⟨h4,zy12 zz0⟩,h5⟩
   . exact .inr h4
theorem GS.endp (h:GS c L H A s) {N:Nat} (hs:(s.cum+1-c.first).toNat+s.out.length=H.length) (hc:c.first-1<=s.cum) (hfew:H.length<2 ^ 30) {m:zae} (hb:Bgn H m) (h0:0<=m.id) (hq:∀ q∈s.queue,q.id≠m.id) (hf:s.fates[m.id.toNat]?=some 3) (hmid:m.mid<=H.length/\0<=m.mid) (hN:H.length<=N) (hN2:N<65536) :
 GS c L (H++[⟨m.id.toNat,(zhv s.next m).chunk⟩]) A {s with out:=s.out++[zhv s.next m],next:=s.next+1}:=by
 obtain ⟨y0,y1,y2,y3,y4⟩:=hb.one;have hcl:∀ x:Prt,Cls x.chunk (zhv s.next m).chunk->Of m x.chunk:=fun x hx=>⟨hx.1,hx.2⟩
 have htag:tag m.mid=m.mid:=by unfold tag;omega
 have hyid:y0.id=m.id.toNat:=by omega
 have hln:=h.len;have yoq:HI c L (H++[⟨m.id.toNat,(zhv s.next m).chunk⟩]):=by
  refine h.hi.push ⟨rfl,?_,rfl,rfl,rfl⟩ ?_ ?_ ?_ ?_
  . show tag s.next=_;rw [<- hln]
  . obtain ⟨w,w1,w2,w3,-⟩:=h.hi.msg y0 y1
    exact ⟨w,by show L[m.id.toNat]?=_;rw [<- hyid];exact w1,by show m.message.stream=_;rw [<- y4.1];exact w2,by show m.message.ordered=_;rw [<- y4.2];exact w3,fun hd=>absurd rfl hd⟩
  . show 0<=tag m.mid/\tag m.mid<=_;rw [htag];omega
  . intro x hx hxc
    have h1:=hb.top x hx (hcl x hxc);have h2:Cls x.chunk y0.chunk:=⟨(hcl x hxc).1.trans y4.1.symm,(hcl x hxc).2.trans y4.2.symm⟩
    have h3:=h.hi.key x hx y0 y1 h2;have h4:=h.hi.key y0 y1 x hx h2.symm;show x.id<=m.id.toNat/\(x.id<m.id.toNat↔x.chunk.mid<tag m.mid)/\x.chunk.mid<=tag m.mid;rw [htag,<- y3,<- hyid];omega
  . intro x hx he
    show x.chunk.part<m.parts;exact hb.part x hx (by have he:x.id=m.id.toNat:=he;omega)
 have hmem:∀ x∈H,x∈H++[(⟨m.id.toNat,(zhv s.next m).chunk⟩:Prt)]:=fun x hx=>zy67 _ hx
 refine ⟨h.cfg,yoq,?_,fun k x hx=>?_,fun x hx hd=>?_,fun x hx h4=>?_,fun k x hx h2=>?_,fun i y hy hle=>?_,h.ids,h.zfu,h.hand,h.handn,fun q hq' hmn=>?_,fun q hq' hmn=>?_,fun y hy=>?_,fun n hn=>?_,fun k hk h3=>?_,fun k h2 i y hy he=>?_⟩
 . show c.first+((H++[_]).length:Int)=s.next+1
   rw [zy4,zy48];push_cast;omega
 . have hx:(s.out++[zhv s.next m])[k]?=some x:=hx
   rcases zei hx with hx | ⟨rfl,rfl⟩
   . obtain ⟨y,h1,h2⟩:=h.out k x hx
     exact ⟨y,zjz h1,h2⟩
   . exact ⟨⟨m.id.toNat,(zhv s.next m).chunk⟩,by show (H++[_])[(s.cum+1-c.first).toNat+s.out.length]?=_;rw [hs];exact yuu _ _,by show m.id=(m.id.toNat:Int);omega,rfl⟩
 . rcases zy10.1 hx with hx | hx
   . exact h.stop x hx hd
   . rw [zy7] at hx;subst hx;exact .inr rfl
 . rcases zy10.1 hx with hx | hx
   . exact h.gone x hx h4
   . rw [zy7] at hx;subst hx;cases h4
 . have hx:(s.out++[zhv s.next m])[k]?=some x:=hx
   rcases zei hx with hx | ⟨rfl,rfl⟩
   . exact h.zfm k x hx h2
   . cases h2
 . rcases zei hy with hy | ⟨rfl,rfl⟩
   . exact h.done i y hy hle
   . have hle:c.first+(H.length:Int)<=s.cum:=hle
     omega
 . obtain ⟨f1,f2⟩:=h.fresh q hq' hmn
   refine ⟨f1,fun y hy hof=>?_⟩;rcases zy10.1 hy with hy | hy
   . exact f2 y hy hof
   . rw [zy7] at hy;subst hy
     have:=f2 y0 y1 ⟨y4.1.trans hof.1,y4.2.trans hof.2⟩;show (m.id.toNat:Int)<q.id;omega
 . have b:=h.begun q hq' hmn
   obtain ⟨z0,z1,z2⟩:=b.one;refine ⟨b.some,⟨z0,hmem z0 z1,z2⟩,fun y hy hof=>?_,fun y hy he=>?_,fun j hj=>?_⟩
   . rcases zy10.1 hy with hy | hy
     . exact b.top y hy hof
     . rw [zy7] at hy;subst hy
       have:=b.top y0 y1 ⟨y4.1.trans hof.1,y4.2.trans hof.2⟩;show (m.id.toNat:Int)<=q.id;omega
   . rcases zy10.1 hy with hy | hy
     . exact b.part y hy he
     . rw [zy7] at hy;subst hy
       have he:(m.id.toNat:Int)=q.id:=he;exact absurd zz0 (hq q hq')
   . obtain ⟨w,w1,w2⟩:=b.all j hj
     exact ⟨w,hmem w w1,w2⟩
 . rcases zy10.1 hy with hy | hy
   . exact h.mids y hy
   . rw [zy7] at hy;subst hy
     have:=h.mids y0 y1;show tag m.mid<xax s (zhv s.next m).chunk;rw [htag,<- y3];have e:xax s (zhv s.next m).chunk=xax s y0.chunk:=by
      unfold xax;rw [y4.1,y4.2];rfl
     rw [e];exact this
 . have:=h.midn n hn
   rw [zy4,zy48];push_cast;omega
 . rcases h.whole k hk h3 with h4 | h4
   . exact .inl h4
   . exact .inr h4.more
 . rcases zei hy with hy | ⟨rfl,rfl⟩
   . exact h.told k h2 i y hy he
   . have he:m.id.toNat=k:=he
     subst he;have h2:s.fates[m.id.toNat]?=some 2:=h2;rw [hf] at h2;cases h2
theorem GS.mapOut (h:GS c L H A s) {g:zbr->zbr} (hg:∀ x,(g x).id=x.id/\(g x).chunk=x.chunk) (h1:∀ x∈s.out,x.chunk.data=[]->x.state=4\/x.state=0->(g x).state=4\/(g x).state=0) (h2:∀ x∈s.out,(g x).state=4->x.state=4\/s.fates[x.id.toNat]?=some 3) (h3:∀ x∈s.out,(g x).state=2->x.state=2) :
 GS c L H A {s with out:=s.out.map g}:=by
 refine ⟨h.cfg,h.hi,h.len,fun k x hx=>?_,fun x hx hd=>?_,fun x hx h4=>?_,fun k x hx hst=>?_,h.done,h.ids,h.zfu,h.hand,h.handn,h.fresh,h.begun,h.mids,h.midn,h.whole,h.told⟩
 . have hx:(s.out.map g)[k]?=some x:=hx
   rw [zy13] at hx;cases hy:s.out[k]? with
   | none=>rw [hy] at hx;cases hx
   | some y =>
    rw [hy] at hx;cases hx;obtain ⟨w,w1,w2,w3⟩:=h.out k y hy;exact ⟨w,w1,(hg y).1.trans w2,(hg y).2.trans w3⟩
 . obtain ⟨y,hy,rfl⟩:=zy23.1 hx
   rw [(hg y).2] at hd;exact h1 y hy hd (h.stop y hy hd)
 . obtain ⟨y,hy,rfl⟩:=zy23.1 hx
   rw [(hg y).1];rcases h2 y hy h4 with h5 | h5
   . exact h.gone y hy h5
   . exact h5
 . have hx:(s.out.map g)[k]?=some x:=hx
   rw [zy13] at hx;cases hy:s.out[k]? with
   | none=>rw [hy] at hx;cases hx
   | some y =>
    rw [hy] at hx;cases hx;exact h.zfm k y hy (h3 y (zy5 hy) hst)
theorem ywb {N:Nat} (h:GS c L H A s) (hs:SI N s) (hN:N<=500) {id:Nat} (hid:s.fates[id]?=some 1):∃ E,GS c L (H++E) A (zcd s id):=by
 have hf:(s.fates.set id 3)[id]?=some 3:=by rw [zy17 (zci hid)]
 have hcap:=h.few hs;have hlen:=h.num hs;have hcu:=hs.cum;rw [h.cfg] at hcu;have g1:=h.fate id;have g2:=g1.leave (id:=id) hf (w:=if s.sched.hand=(id:Int) then -1 else s.sched.hand) (by show _=s.sched.hand\/_;split;exact .inr rfl;exact .inl rfl);have key:∃ E,GS c L (H++E) A {{s with fates:=s.fates.set id 3,queue:=s.queue.filter (fun m=>decide (m.id≠(id:Int))),sched:={s.sched with hand:=if s.sched.hand=(id:Int) then -1 else s.sched.hand}} with out:=(s.queue.foldl (zes id) {s with fates:=s.fates.set id 3}).out,next:=(s.queue.foldl (zes id) {s with fates:=s.fates.set id 3}).next}:=by
  rcases ynr id s.queue {s with fates:=s.fates.set id 3} h.zfu with e | ⟨m,hm,m1,m2,e⟩
  . rw [e];exact ⟨[],by rw [zy9];exact g2⟩
  . have hb:=h.begun m hm (by
     rcases zy140 m.mid 0 with hlt | hge
     . have:=(h.fresh m hm hlt).1;omega
     . exact hge)
    obtain ⟨y0,y1,y2,y3,y4⟩:=hb.one;have ym:=h.hi.mid y0 y1;have hnl:=hs.nextle;have hn0:=hs.next;have hc0:=(zca hs.cfg)
    rw [h.cfg] at hc0;have hW:W (s.next+1)=s.next+1:=zbg zz0 zz0;have g3:=g2.endp (N:=30500) (m:=m) hlen hcu zz0 hb zz0 (fun q hq=>by have:=zy39 (zy54.1 hq).2;omega) (by rw [m1];exact hf) zz0 zz0 zz0;rw [e];refine ⟨_,g3.congr rfl rfl ?_ rfl rfl rfl rfl rfl⟩;exact hW
 obtain ⟨E,g4⟩:=key;have g5:=g4.mapOut (g:=Sco.zhg id) (fun x=>by unfold Sco.zhg;split<;>exact ⟨rfl,rfl⟩) (fun x _ _ hx=>by unfold Sco.zhg;split;exact .inl rfl;exact hx) (fun x _ hx=>by
  unfold Sco.zhg at hx;split at hx
  . rename_i c;right;show (s.fates.set id 3)[x.id.toNat]?=_;rw [c.1];exact hf
  . exact .inl hx) (fun x _ hx=>by
  unfold Sco.zhg at hx;split at hx
  . cases hx
  . exact hx)
 obtain ⟨r,-,-,-⟩:=ziw s id;exact ⟨E,g5.congr r.config rfl rfl r.cum (zgr s id) rfl (by show (if s.sched.hand=(id:Int) then {s.sched with hand:=-1} else s.sched:ziu).hand=if s.sched.hand=(id:Int) then -1 else s.sched.hand;split<;>rfl) r.mids⟩
end
end Gh
namespace Pck
open Chk
theorem zjt:∀ {l:List Chunk} {f:Nat},(zbh l).length<=f->zcb l=0->zgs f (zbh l)=(l.map clean,0)
 | [],f,_,_=>by cases f<;>rfl
 | c::r,f,h,hw=>by
  simp only [zcb] at hw;have hc:zdl c=0:=by
   rcases Int.decEq (zdl c) 0 with h | h
   . rw [zy1 h] at hw;exact hw
   . exact h
  rw [zy0 (fun h=>h hc)] at hw;have hb:zbh (c::r)=Chk.bytes c++zbh r:=rfl;have hlen:2<=(Chk.bytes c).length:=by rw [Chk.bytes,zy1 hc];simp
  rw [hb,zy4] at h;obtain ⟨g,rfl⟩:∃ g,f=g+1:=⟨f-1,by omega⟩
  rw [hb,zgs,zy0 (by rw [zy4];omega),ylw hc,zy0 (fun h=>h rfl)];have hd:(Chk.bytes c++zbh r).drop (((Chk.bytes c).length:Int)).toNat=zbh r:=by simp
  rw [show (clean c,((Chk.bytes c).length:Int),(0:Int)).2.1=((Chk.bytes c).length:Int) from rfl,hd,zjt (by omega) hw]
  rfl
theorem xqe {l:List Chunk} {most:Int} (h:(zcu l most).2=0):l.length≠0/\zcb l=0/\((zbh l).length:Int)<=most/\zcu l most=(zbh l,0):=by
 unfold zcu at h ⊢;by_cases h1:l.length=0
 . rw [zy1 h1] at h;cases h
 rw [zy0 h1] at h ⊢;by_cases h2:zcb l≠0
 . rw [zy1 h2] at h;exact absurd h h2
 rw [zy0 h2] at h ⊢;by_cases h3:((zbh l).length:Int)>most
 . rw [zy1 h3] at h;cases h
 rw [zy0 h3];exact ⟨h1,by omega,by omega,rfl⟩
end Pck
namespace Gh
open Ser Snd
def gF (s:zab) (id:Nat):Prop:=s.fates[id]?=some 3
def zuz (H:List Prt) (ch:Chunk):Prop:=∃ (i:Nat) (y:Prt),H[i]?=some y/\ch=y.chunk/\ch.data≠[]
def yrg (c:Config) (H:List Prt) (A F:Nat->Prop) (ch:Chunk):Prop:=∃ n:Int,c.first-1<=n/\n<c.first+H.length/\tag ch.tag=tag n/\(∀ (i:Nat) y,H[i]?=some y->c.first+i<=n->A i\/F y.id) /\
 ∀ sk∈ch.zbv,∃ (i:Nat) (y:Prt),H[i]?=some y/\c.first+i<=n/\F y.id/\sk.stream=y.chunk.stream/\sk.ordered=y.chunk.ordered/\sk.mid=y.chunk.mid
def zoo (c:Config) (H:List Prt) (A F:Nat->Prop) (ch:Chunk):Prop:=zuz H ch\/(ch.kind=3/\yrg c H A F ch)
theorem zuz.more {H E:List Prt} {ch:Chunk} (h:zuz H ch):zuz (H++E) ch:=by
 obtain ⟨i,y,h1,h2⟩:=h;exact ⟨i,y,zjz h1,h2⟩
theorem yka {H E:List Prt} {i:Nat} {y:Prt} (h:(H++E)[i]?=some y) (hi:i<H.length):H[i]?=some y:=by
 rwa [zy26 hi] at h
theorem yrg.more {c:Config} {H E:List Prt} {A B F G:Nat->Prop} {ch:Chunk} (h:yrg c H A F ch) (hA:∀ i,A i->B i) (hF:∀ i,F i->G i):yrg c (H++E) B G ch:=by
 obtain ⟨n,h1,h2,h3,h4,h5⟩:=h;refine ⟨n,h1,by rw [zy4];push_cast;omega,h3,fun i y hy hle=>(h4 i y (yka hy zz0) hle).imp (hA i) (hF _),fun sk hsk=>?_⟩;obtain ⟨i,y,k1,k2,k3,k4⟩:=h5 sk hsk;exact ⟨i,y,zjz k1,k2,hF _ k3,k4⟩
theorem zoo.more {c:Config} {H E:List Prt} {A B F G:Nat->Prop} {ch:Chunk} (h:zoo c H A F ch) (hA:∀ i,A i->B i) (hF:∀ i,F i->G i):zoo c (H++E) B G ch :=
 h.imp zuz.more fun h=>⟨h.1,h.2.more hA hF⟩
section
variable {c:Config} {L:List Message} {H:List Prt} {A:Nat->Prop} {s:zab} {N:Nat}
theorem yga (s:zab) {id k:Nat} (h:gF s k):gF (zcd s id) k:=by
 unfold gF at h ⊢;rw [zgr];by_cases e:id=k
 . subst e;rw [zy17 (zci h)]
 . rw [zy29 e];exact h
theorem ycc (hN:N<=500):∀ (q:List zae) {H:List Prt} {s:zab},GS c L H A s->SI N s->q.Pairwise (fun a b=>a.id<b.id)->(∀ m∈q,m∈s.queue)->∃ E,GS c L (H++E) A (q.foldl zhw s)/\(∀ k,gF s k->gF (q.foldl zhw s) k)
 | [],H,s,h,_,_,_=>⟨[],by rw [zy9];exact h,fun _ h=>h⟩
 | m::q,H,s,h,hs,hp,hm=>by
  obtain ⟨p1,p2⟩:=zy133.1 hp;have hq:=hs.queue m (hm m zz3);have h0:=hq.id0;rw [zy35];by_cases c1:old s.clock m.came m.message.life=true
  . rw [show zhw s m=zcd s m.id from zy1 c1]
    obtain ⟨k,hk⟩:∃ k:Nat,m.id=k:=⟨m.id.toNat,by omega⟩
    have hf:=hq.fate;have hid1:=hq.id1;rw [hk] at hf ⊢;rw [zy38] at hf;obtain ⟨E,g⟩:=ywb h hs hN hf;obtain ⟨E2,g2,g3⟩:=ycc hN q g (ycl hs zz0) p2 fun x hx=>by
     rw [zkq];exact zy54.2 ⟨hm x zz28,zy12 (by have:=p1 x hx;omega)⟩
    exact ⟨E++E2,by rw [<- zy24];exact g2,fun j hj=>g3 j (yga s hj)⟩
  . rw [show zhw s m=s from zy0 c1]
    exact ycc hN q h hs p2 fun x hx=>hm x zz28
theorem yce (hN:N<=500):∀ (q:List zbr) {H:List Prt} {s:zab},GS c L H A s->SI N s->(∀ m∈q,0<=m.id/\m.id<s.fates.length)->∃ E,GS c L (H++E) A (q.foldl zgt s)/\(∀ k,gF s k->gF (q.foldl zgt s) k)
 | [],H,s,h,_,_=>⟨[],by rw [zy9];exact h,fun _ h=>h⟩
 | x::q,H,s,h,hs,hx=>by
  obtain ⟨x0,x1⟩:=hx x zz3;rw [zy35];by_cases c1:yru s x=true
  . rw [show zgt s x=zcd s x.id from zy1 c1]
    obtain ⟨k,hk⟩:∃ k:Nat,x.id=k:=⟨x.id.toNat,by omega⟩
    have hf:s.fates[k]?=some 1:=by
     unfold yru at c1;rw [zy14,zy41,hk,zy38] at c1;cases hz:s.fates[k]? with
     | none=>rw [hz] at c1;exact absurd c1.1 zz5
     | some z=>rw [hz] at c1;rw [show z=1 from c1.1]
    rw [hk];obtain ⟨E,g⟩:=ywb h hs hN hf;obtain ⟨E2,g2,g3⟩:=yce hN q g (ycl hs zz0) fun y hy=>by
     rw [zgr,zy25];exact hx y zz40
    exact ⟨E++E2,by rw [<- zy24];exact g2,fun j hj=>g3 j (yga s hj)⟩
  . rw [show zgt s x=s from zy0 c1]
    exact yce hN q h hs fun y hy=>hx y zz40
theorem yvl (h:GS c L H A s) (hs:SI N s) (hN:N<=500):∃ E,GS c L (H++E) A (expire s)/\∀ k,gF s k->gF (expire s) k:=by
 obtain ⟨E,g1,g2⟩:=ycc hN s.queue h hs h.zfu fun _ h=>h
 obtain ⟨a,b⟩:=zps s.queue s hs fun m hm=>⟨(hs.queue m hm).id0,(hs.queue m hm).id1⟩
 obtain ⟨E2,g3,g4⟩:=yce hN (s.queue.foldl zhw s).out g1 a fun x hx=>⟨(a.out x hx).id0,(a.out x hx).id1⟩
 exact ⟨E++E2,by rw [<- zy24];exact g3,fun k hk=>g4 k (g2 k hk)⟩
theorem yqp {ch:Chunk} {t:zgg}:∀ {l:List zgg},t∈Sco.skip ch l->t∈l\/t=⟨ch.stream,ch.mid,ch.ordered⟩
 | [],h=>by
  rw [Sco.skip,zy7] at h;exact .inr h
 | x::r,h=>by
  rw [Sco.skip] at h;split at h
  . rename_i c1
    unfold Sco.zkf at c1;simp only [zy14,zy44] at c1;rcases zy18.1 h with h | h
    . rw [h,c1.1.1,c1.1.2];exact .inr rfl
    . exact .inl (by simp [h])
  . rcases zy18.1 h with h | h
    . exact .inl (by simp [h])
    . exact (yqp h).imp (fun h=>by simp [h]) id
theorem ydn (h:GS c L H A s) (hs:SI N s):∀ (l:List zbr) (k:Nat) (sk:List zgg) (cu:Int),s.out.drop k=l->cu=s.cum+k->k<=s.out.length->(∀ (i:Nat) y,H[i]?=some y->c.first+i<=cu->A i\/gF s y.id) ->
 (∀ t∈sk,∃ (i:Nat) (y:Prt),H[i]?=some y/\c.first+i<=cu/\gF s y.id/\t.stream=y.chunk.stream/\t.ordered=y.chunk.ordered/\t.mid=y.chunk.mid) ->
 s.cum<=(Sco.zdp cu sk l).1/\(Sco.zdp cu sk l).1<=s.cum+s.out.length/\(∀ (i:Nat) y,H[i]?=some y->c.first+i<=(Sco.zdp cu sk l).1->A i\/gF s y.id) /\
 (∀ t∈(Sco.zdp cu sk l).2,∃ (i:Nat) (y:Prt),H[i]?=some y/\c.first+i<=(Sco.zdp cu sk l).1/\gF s y.id/\t.stream=y.chunk.stream/\t.ordered=y.chunk.ordered/\t.mid=y.chunk.mid)
 | [],k,sk,cu,_,h2,h3,h4,h5=>⟨by show s.cum<=cu;omega,by show cu<=_;omega,h4,h5⟩
 | x::r,k,sk,cu,h1,h2,h3,h4,h5=>by
  have stay:s.cum<=cu/\cu<=s.cum+s.out.length/\(∀ (i:Nat) y,H[i]?=some y->c.first+i<=cu->A i\/gF s y.id)/\(∀ t∈sk,∃ (i:Nat) (y:Prt),H[i]?=some y/\c.first+i<=cu/\gF s y.id/\t.stream=y.chunk.stream/\t.ordered=y.chunk.ordered/\t.mid=y.chunk.mid):=⟨by omega,by omega,h4,h5⟩
  have hx:s.out[k]?=some x:=by
   have:(s.out.drop k)[0]?=some x:=by rw [h1];rfl
   rwa [zy46,zy95] at this
  have hk:=zci hx;have hr:s.out.drop (k+1)=r:=by rw [<- zy117,h1];rfl
  have hnum:=hs.nums k x hx;obtain ⟨y,y1,y2,y3⟩:=h.out k x hx;have hcu:=hs.cum;rw [h.cfg] at hcu;have hix:c.first+((((s.cum+1-c.first).toNat+k:Nat)):Int)=x.number:=by rw [hnum];omega
  have hyid:x.id.toNat=y.id:=by omega
  rw [Sco.zdp];by_cases c1:x.number≠W (cu+1)\/(x.state≠4/\x.state≠2)
  . rw [zy1 c1];exact stay
  rw [zy0 c1];have hst:x.state=4\/x.state=2:=by omega
  have hcov:∀ (i:Nat) z,H[i]?=some z->c.first+i<=x.number->A i\/gF s z.id:=by
   intro i z hz hle;by_cases e:c.first+i<=cu
   . exact h4 i z hz e
   . have:i=(s.cum+1-c.first).toNat+k:=by omega
     subst this;rw [y1] at hz;cases hz;rcases hst with h6 | h6
     . right;have:=h.gone x (zy5 hx) h6;rwa [hyid] at this
     . exact .inl (h.zfm k x hx h6)
  by_cases c2:x.state=4
  . rw [zy1 c2]
    split
    . exact stay
    . refine ydn h hs r (k+1) _ x.number hr (by rw [hnum];push_cast;omega) zz0 hcov fun t ht=>?_
      rcases yqp ht with ht | rfl
      . obtain ⟨i,z,z1,z2,z3⟩:=h5 t ht
        exact ⟨i,z,z1,by omega,z3⟩
      . refine ⟨_,y,y1,by omega,?_,?_,?_,?_⟩
        . have:=h.gone x (zy5 hx) c2;rwa [hyid] at this
        . show x.chunk.stream=_;rw [y3]
        . show x.chunk.ordered=_;rw [y3]
        . show x.chunk.mid=_;rw [y3]
  . rw [zy0 c2]
    refine ydn h hs r (k+1) _ x.number hr (by rw [hnum];push_cast;omega) zz0 hcov fun t ht=>?_
    obtain ⟨i,z,z1,z2,z3⟩:=h5 t ht;exact ⟨i,z,z1,by omega,z3⟩
def zre (c:Config) (H:List Prt) (A:Nat->Prop) (p:zfs):Prop:=∀ l∈p.out,∀ ch∈l,zoo c H A (gF p.s) ch
theorem yyw {o:List (List Chunk)} {k:Nat} {x:Chunk} {Q:Chunk->Prop} (h:∀ l∈o,∀ ch∈l,Q ch) (hx:Q x):∀ l∈setAt o k (·++[x]),∀ ch∈l,Q ch:=by
 intro l hl ch hc;unfold setAt at hl;split at hl
 . exact h l hl ch hc
 . rename_i y hy
   rcases zy45 hl with hl | rfl
   . exact h l hl ch hc
   . rcases zy10.1 hc with hc | hc
     . exact h y (zy5 hy) ch hc
     . rw [zy7] at hc;subst hc;exact hx
theorem yrx {p:zfs} (h:GS c L H A p.s) (hs:SI N p.s) (ho:zre c H A p):GS c L H A (forward p).s/\zre c H A (forward p)/\(forward p).s.fates=p.s.fates:=by
 unfold forward;split
 . exact ⟨h,ho,rfl⟩
 . have hcu:=hs.cum
   rw [h.cfg] at hcu;have hnum:=h.num hs;have hcap:=h.few hs;obtain ⟨k1,k2,k3,k4⟩:=ydn h hs p.s.out 0 [] p.s.cum rfl zz3 zz3 (fun i y hy hle=>h.done i y hy hle) zz3;refine ⟨h.congr rfl rfl rfl rfl rfl rfl rfl rfl,yyw ho (.inr ⟨rfl,(Sco.zeg p.s.out p.s.cum).1,?_,?_,?_,k3,k4⟩),rfl⟩
   . show _<=(Sco.zdp p.s.cum [] p.s.out).1;omega
   . show (Sco.zdp p.s.cum [] p.s.out).1<_;omega
   . show tag (tag _)=_;unfold tag;omega
theorem xfj {p:zfs} (h:GS c L H A p.s) (ho:zre c H A p) {i path:Nat} {x:zbr} (hx:p.s.out[i]?=some x) (hd:x.chunk.data≠[]):GS c L H A (fly p i path).s/\zre c H A (fly p i path)/\(fly p i path).s.fates=p.s.fates:=by
 obtain ⟨y,y1,y2,y3⟩:=h.out i x hx;have hil:=zci hx;unfold fly;simp only [hx];refine ⟨?_,yyw ho (.inl ⟨_,y,y1,y3,hd⟩),trivial⟩;refine ⟨h.cfg,h.hi,h.len,fun k z hz=>?_,fun z hz hzd=>?_,fun z hz h4=>?_,fun k z hz h2=>?_,h.done,h.ids,h.zfu,h.hand,h.handn,h.fresh,h.begun,h.mids,h.midn,h.whole,h.told⟩
 . have hz:(p.s.out.set i (zuj x path))[k]?=some z:=hz
   by_cases e:i=k
   . subst e
     rw [zy17 hil] at hz;cases hz;exact ⟨y,y1,y2,y3⟩
   . rw [zy29 e] at hz;exact h.out k z hz
 . rcases zy45 hz with hz | rfl
   . exact h.stop z hz hzd
   . exact absurd hzd hd
 . rcases zy45 hz with hz | rfl
   . exact h.gone z hz h4
   . cases h4
 . have hz:(p.s.out.set i (zuj x path))[k]?=some z:=hz
   by_cases e:i=k
   . subst e
     rw [zy17 hil] at hz;cases hz;cases h2
   . rw [zy29 e] at hz;exact h.zfm k z hz h2
theorem yup {p:zfs} (h:GS c L H A p.s) (ho:zre c H A p) (path i:Nat):GS c L H A (zct path p i).s/\zre c H A (zct path p i)/\(zct path p i).s.fates=p.s.fates:=by
 unfold zct;split
 . exact ⟨h,ho,rfl⟩
 . rename_i x hx
   split
   . rename_i c1
     refine xfj h ho hx fun hd=>?_
     have:=h.stop x (zy5 hx) hd;omega
   . exact ⟨h,ho,rfl⟩
theorem yet {path:Nat}:∀ (l:List Nat) {p:zfs},GS c L H A p.s->zre c H A p->GS c L H A (l.foldl (zct path) p).s/\zre c H A (l.foldl (zct path) p)/\(l.foldl (zct path) p).s.fates=p.s.fates
 | [],_,h,ho=>⟨h,ho,rfl⟩
 | i::l,p,h,ho=>by
  obtain ⟨h1,h2,h3⟩:=yup h ho path i;obtain ⟨k1,k2,k3⟩:=yet (path:=path) l h1 h2;exact ⟨k1,k2,k3.trans h3⟩
theorem mem_set' {α:Type} {l:List α} {k:Nat} {a y:α} (h:y∈l.set k a):y=a\/∃ i,i≠k/\l[i]?=some y:=by
 obtain ⟨i,hi⟩:=zy33 h;by_cases e:k=i
 . subst e
   rw [zy17 (by have:=zci hi;rwa [zy25] at this)] at hi;cases hi;exact .inl rfl
 . rw [zy29 e] at hi;exact .inr ⟨i,fun h=>e h.symm,hi⟩
theorem mem_erase' {α:Type} {l:List α} {k:Nat} {y:α} (h:y∈l.eraseIdx k):∃ i,i≠k/\l[i]?=some y:=by
 obtain ⟨i,hi⟩:=zy33 h;rw [List.getElem?_eraseIdx] at hi;split at hi
 . exact ⟨i,by omega,hi⟩
 . exact ⟨i+1,by omega,hi⟩
theorem ylz {q:List zae} (h:q.Pairwise fun a b=>a.id<b.id) {i j:Nat} {x y:zae} (hx:q[i]?=some x) (hy:q[j]?=some y) (hij:i<j):x.id<y.id:=by
 obtain ⟨h1,e1⟩:=zy11.1 hx;obtain ⟨h2,e2⟩:=zy11.1 hy;rw [<- e1,<- e2];exact List.pairwise_iff_getElem.1 h i j h1 h2 hij
end
end Gh
namespace Gh
open Ser Snd
section
variable {c:Config} {L:List Message} {H:List Prt} {A:Nat->Prop} {s:zab} {N:Nat}
theorem ylx {P:Int} {s:zab} {m:zae} (hP:1<=P) (hc:s.config.part=P) (h0:0<=m.parts) (hs:m.sent=m.parts*P) (hl:m.sent<m.message.data.length):zst P m.message (cut s m (many s m))/\(cut s m (many s m)).data≠[]:=by
 have hm0:0<=m.parts*P:=zy141 h0 zz0;have hdl:(m.message.data.drop m.sent.toNat).length=m.message.data.length-m.sent.toNat:=zy37 ..;refine ⟨⟨h0,by show m.parts*P<_;omega,?_,?_⟩,?_⟩
 . show (m.message.data.drop m.sent.toNat).take (many s m).toNat=(m.message.data.drop (m.parts*P).toNat).take P.toNat
   rw [<- hs];unfold many;split
   . rw [zy34 (by omega),zy34 (by omega)]
   . rw [hc]
 . show decide (m.sent+many s m=m.message.data.length)=decide ((m.message.data.length:Int)<=m.parts*P+P)
   rw [zy128,<- hs];unfold many;split<;>omega
 . intro h
   have h:(m.message.data.drop m.sent.toNat).take (many s m).toNat=[]:=h;have:=congrArg List.length h;rw [zy55,hdl,zy16] at this;unfold many at this;split at this<;>omega
theorem yhi (s:zab) (m:zae) (hb:∀ n∈s.mids,0<=n/\n<=2 ^ 30) (i:Nat):s.mids[i]?.getD 0<=(zcz s m)[i]?.getD 0:=by
 unfold zcz;split
 . unfold setAt
   split
   . exact zy80 _
   . rename_i n hn
     by_cases e:zhb s m=i
     . subst e
       rw [zy17 (zci hn),hn];have:=hb n (zy5 hn);show n<=W (n+1);rw [zbg (by omega) (by omega)];omega
     . rw [zy29 e];exact zy80 _
 . exact zy80 _
theorem ysq {s:zab} {m:zae} {n:Int} (h:n∈zcz s m) (hb:∀ n∈s.mids,0<=n/\n<=2 ^ 30):n∈s.mids\/n-1∈s.mids:=by
 unfold zcz at h;split at h
 . unfold setAt at h
   split at h
   . exact .inl h
   . rename_i x hx
     rcases zy45 h with h | rfl
     . exact .inl h
     . right
       have:=hb x (zy5 hx);show W (x+1)-1∈s.mids;rw [zbg (by omega) (by omega),show x+1-1=x by omega];exact zy5 hx
 . exact .inl h
theorem xma (h:GS c L H A s) (hs:SI N s) (hN:N<=500) (hkeep:KI L s) {k:Nat} {m:zae} (hm:s.queue[k]?=some m) (hfirst:m.id=s.sched.hand\/∀ q∈s.queue.take k,q.message.stream≠m.message.stream) :
 GS c L (H++[⟨m.id.toNat,cut s m (many s m)⟩]) A (zrj s k m)/\(cut s m (many s m)).data≠[]:=by
 have hmm:=zy5 hm;have hq:=hs.queue m hmm;have hw:=zca hs.cfg;have hL:=hkeep.queue m hmm;have hlen:=h.num hs;have hcap:=h.few hs;have hcu:=hs.cum;rw [h.cfg] at hcu;have hnx:=hs.next;have hln:=h.len;have q0:=hq.id0;have q1:=hq.id1;have q2:=hq.parts;have q3:=hq.sent;have q4:=hq.left;have q5:=hq.st0;have q6:=hq.st1;have q7:=hq.fate;have q8:=hq.few zz0;have hP:s.config.part=c.part:=by rw [h.cfg]
 have hcf:s.config.first=c.first:=by rw [h.cfg]
 have hmids:∀ n∈s.mids,0<=n/\n<=2 ^ 30:=fun n hn=>by have:=h.midn n hn;omega
 obtain ⟨hpo,hdne⟩:=ylx (P:=c.part) (s:=s) (m:=m) zz0 hP q2 (by rw [<- hP];exact q3) q4;have hms0:0<=m.parts*s.config.part:=zy141 q2 zz0;obtain ⟨n1,n2,n3⟩:=zru (s:=s) (m:=m) zz0 zz0 zz0 q4 (by have:=hq.len2;omega);have hWn:W (s.next+1)=s.next+1:=zbg zz0 zz0;have hWp:W (m.parts+1)=m.parts+1:=zbg zz0 zz0;have hof:∀ x∈H,(x.id:Int)=m.id->Of m x.chunk:=by
  intro x hx he;obtain ⟨w,w1,w2,w3,-⟩:=h.hi.msg x hx;rw [show x.id=m.id.toNat by omega,hL] at w1;cases w1;exact ⟨w2,w3⟩
 have hmc:∀ x:Prt,Of m x.chunk->xax s x.chunk=xax s (cut s m (many s m)):=by
  intro x hx;unfold xax;rw [hx.1,hx.2];rfl
 have hma:zhb s m<s.mids.length:=by
  have:=hs.nmids;unfold zhb;split<;>omega
 -- what is so of the message's number in its row
 have hall:(∀ x∈H,Of m x.chunk->(x.id:Int)<=m.id/\((x.id:Int)<m.id↔x.chunk.mid<zbt s m)/\x.chunk.mid<=zbt s m)/\(∀ x∈H,(x.id:Int)=m.id->x.chunk.part<m.parts)/\(0<=zbt s m/\zbt s m<=H.length) /\
  (∀ j:Nat,(j:Int)<m.parts->∃ y∈H,(y.id:Int)=m.id/\y.chunk.part=j/\y.chunk.data≠[])/\zbt s m<xax (zrj s k m) (cut s m (many s m)) /\
  (∀ (i:Nat) q,i≠k->s.queue[i]?=some q->Of q (cut s m (many s m))->(q.mid<0->m.id<q.id)/\(0<=q.mid->m.id<=q.id)):=by
  rcases zy140 m.mid 0 with hneg | hge
  . obtain ⟨f1,f2⟩:=h.fresh m hmm hneg
    have hmu:zbt s m=xax s (cut s m (many s m)):=by unfold zbt;rw [zy1 hneg];rfl
    have hget:s.mids[zhb s m]?=some (zbt s m):=by
     obtain ⟨z,hz⟩:∃ z,s.mids[zhb s m]?=some z:=⟨_,zy2 hma⟩
     rw [hz];unfold zbt;rw [zy1 hneg,hz];rfl
    have hmb:=h.midn _ (zy5 hget);refine ⟨fun x hx hox=>?_,fun x hx he=>?_,hmb,fun j hj=>?_,?_,fun i q hik hqi hoq=>?_⟩
    . have e1:=f2 x hx hox
      have e2:=h.mids x hx;rw [hmc x hox,<- hmu] at e2;omega
    . have e1:=f2 x hx (hof x hx he);omega
    . omega
    . show zbt s m<(zcz s m)[zhb s m]?.getD 0
      unfold zcz;rw [zy1 hneg];unfold setAt;simp only [hget];rw [zy17 hma];show _<W (zbt s m+1);rw [zbg (by omega) (by omega)];omega
    . have hno:∀ q∈s.queue.take k,q.message.stream≠m.message.stream:=by
       rcases hfirst with hf | hf
       . have:=h.hand m hmm hf;omega
       . exact hf
      have hlt:m.id<q.id:=by
       rcases zy71 i k with hlt | hge
       . exact absurd hoq.1.symm (hno q (zy5 (i:=i) (by rw [zy53,zy1 hlt];exact hqi)))
       . exact ylz h.zfu hm hqi zz0
      exact ⟨fun _=>hlt,fun _=>by omega⟩
  . have b:=h.begun m hmm hge
    obtain ⟨y0,y1,y2,y3,y4⟩:=b.one;have hmu:zbt s m=m.mid:=by unfold zbt;rw [zy0 (by omega)]
    have hmb:=h.hi.mid y0 y1;refine ⟨fun x hx hox=>?_,b.part,by rw [hmu];omega,b.all,?_,fun i q hik hqi hoq=>?_⟩
    . have e1:=b.top x hx hox
      have e2:Cls x.chunk y0.chunk:=⟨hox.1.trans y4.1.symm,hox.2.trans y4.2.symm⟩
      have e3:=h.hi.key x hx y0 y1 e2;have e4:=h.hi.key y0 y1 x hx e2.symm;rw [hmu,<- y3,<- y2];omega
    . have e1:=h.mids y0 y1
      rw [hmc y0 y4] at e1;have e2:=yhi s m hmids (zhb s m);rw [hmu,<- y3];exact Int.lt_of_lt_of_le e1 e2
    . have hoy:Of q y0.chunk:=⟨y4.1.trans hoq.1,y4.2.trans hoq.2⟩
      refine ⟨fun hqn=>?_,fun hqn=>?_⟩
      . have:=(h.fresh q (zy5 hqi) hqn).2 y0 y1 hoy;omega
      . have:=(h.begun q (zy5 hqi) hqn).top y0 y1 hoy;omega
 obtain ⟨ha,hb,hc3,hd,he5,hf⟩:=hall;have htag:tag (zbt s m)=zbt s m:=by unfold tag;omega
 have yoq:HI c L (H++[⟨m.id.toNat,cut s m (many s m)⟩]):=by
  refine h.hi.push ⟨rfl,?_,rfl,rfl,rfl⟩ ⟨m.message,hL,rfl,rfl,fun _=>hpo⟩ ?_ (fun x hx hxc=>?_) (fun x hx he=>?_)
  . show tag s.next=_;rw [<- hln]
  . show 0<=tag (zbt s m)/\tag (zbt s m)<=_;rw [htag];exact hc3
  . have:=ha x hx ⟨hxc.1,hxc.2⟩
    show x.id<=m.id.toNat/\(x.id<m.id.toNat↔x.chunk.mid<tag (zbt s m))/\x.chunk.mid<=tag (zbt s m);rw [htag];omega
  . have he:x.id=m.id.toNat:=he
    exact hb x hx zz0
 have hmem:∀ x∈H,x∈H++[(⟨m.id.toNat,cut s m (many s m)⟩:Prt)]:=fun x hx=>zy67 _ hx
 have hlast:(⟨m.id.toNat,cut s m (many s m)⟩:Prt)∈H++[(⟨m.id.toNat,cut s m (many s m)⟩:Prt)]:=by simp
 generalize hM:({m with mid:=zbt s m,sent:=m.sent+many s m,parts:=W (m.parts+1)}:zae)=M;have M1:M.id=m.id:=by rw [<- hM]
 have M2:M.message=m.message:=by rw [<- hM]
 have M3:M.mid=zbt s m:=by rw [<- hM]
 have M4:M.parts=m.parts+1:=by rw [<- hM];exact hWp
 have hqueue:(zrj s k m).queue=if decide (m.sent+many s m=m.message.data.length) then s.queue.eraseIdx k else s.queue.set k M:=by rw [<- hM];rfl
 have hq':∀ q∈(zrj s k m).queue,(q=M/\m.sent+many s m≠m.message.data.length)\/∃ i,i≠k/\s.queue[i]?=some q:=by
  intro q hq;rw [hqueue] at hq;split at hq
  . exact .inr (mem_erase' hq)
  . rename_i c1
    rcases mem_set' hq with h1 | h1
    . exact .inl ⟨h1,by simpa using c1⟩
    . exact .inr h1
 have hne:∀ (i:Nat) q,i≠k->s.queue[i]?=some q->q.id≠m.id:=by
  intro i q hik hqi;rcases zy71 i k with hlt | hge
  . have:=ylz h.zfu hqi hm hlt;omega
  . have:=ylz h.zfu hm hqi zz0;omega
 have hofq:∀ q:zae,Of q (cut s m (many s m))->∀ x:Prt,Of q x.chunk↔Of m x.chunk:=fun q hq x=>by
  have e1:m.message.stream=q.message.stream:=hq.1;have e2:m.message.ordered=q.message.ordered:=hq.2;unfold Of;rw [e1,e2]
 refine ⟨⟨h.cfg,yoq,?_,fun j x hx=>?_,fun x hx hxd=>?_,fun x hx h4=>?_,fun j x hx h2=>?_,fun i y hy hle=>?_,fun q hq=>?_,?_,fun q hq hh=>?_,?_,fun q hq hmn=>?_,fun q hq hmn=>?_,fun y hy=>?_,fun n hn=>?_,fun id hid h3=>?_,fun id h2 i y hy he=>?_⟩,hdne⟩
 . show c.first+((H++[_]).length:Int)=W (s.next+1)
   rw [hWn,zy4,zy48];push_cast;omega
 . have hx:(s.out++[_])[j]?=some x:=hx
   rcases zei hx with hx | ⟨rfl,rfl⟩
   . obtain ⟨y,e1,e2⟩:=h.out j x hx
     exact ⟨y,zjz e1,e2⟩
   . exact ⟨⟨m.id.toNat,cut s m (many s m)⟩,by show (H++[_])[(s.cum+1-c.first).toNat+s.out.length]?=_;rw [hlen];exact yuu _ _,by show m.id=(m.id.toNat:Int);omega,rfl⟩
 . have hx:x∈s.out++[_]:=hx
   rcases zy10.1 hx with hx | hx
   . exact h.stop x hx hxd
   . rw [zy7] at hx;subst hx;exact absurd hxd hdne
 . have hx:x∈s.out++[_]:=hx
   rcases zy10.1 hx with hx | hx
   . exact h.gone x hx h4
   . rw [zy7] at hx;subst hx;cases h4
 . have hx:(s.out++[_])[j]?=some x:=hx
   rcases zei hx with hx | ⟨rfl,rfl⟩
   . exact h.zfm j x hx h2
   . cases h2
 . rcases zei hy with hy | ⟨rfl,rfl⟩
   . exact h.done i y hy hle
   . have hle:c.first+(H.length:Int)<=s.cum:=hle
     omega
 . rcases hq' q hq with ⟨rfl,-⟩ | ⟨i,-,hi⟩
   . omega
   . exact h.ids q (zy5 hi)
 . rw [hqueue]
   split
   . exact h.zfu.sublist (List.eraseIdx_sublist _ _)
   . have e:(s.queue.set k M).map zae.id=s.queue.map zae.id:=by
      apply zy75;intro i;rw [zy13,zy13];by_cases e:k=i
      . subst e;rw [zy17 (zci hm),hm];show some M.id=some m.id;rw [M1]
      . rw [zy29 e]
     have h1:(s.queue.map zae.id).Pairwise (·<·):=List.pairwise_map.2 h.zfu;rw [<- e] at h1;exact List.pairwise_map.1 h1
 . have hh:q.id=if decide (m.sent+many s m=m.message.data.length) then -1 else m.id:=hh
   rcases hq' q hq with ⟨rfl,-⟩ | ⟨i,hik,hi⟩
   . rw [M3];exact hc3.1
   . have e1:=h.ids q (zy5 hi)
     have e2:=hne i q hik hi;split at hh
     . omega
     . exact absurd hh e2
 . show (if decide (m.sent+many s m=m.message.data.length) then -1 else m.id)<(L.length:Int)
   have:=hkeep.len;split<;>omega
 . rcases hq' q hq with ⟨rfl,-⟩ | ⟨i,hik,hi⟩
   . rw [M3] at hmn;omega
   . obtain ⟨f1,f2⟩:=h.fresh q (zy5 hi) hmn
     refine ⟨f1,fun y hy hoy=>?_⟩;rcases zy10.1 hy with hy | hy
     . exact f2 y hy hoy
     . rw [zy7] at hy;subst hy
       have:=(hf i q hik hi hoy).1 hmn;show (m.id.toNat:Int)<q.id;omega
 . rcases hq' q hq with ⟨rfl,-⟩ | ⟨i,hik,hi⟩
   . refine ⟨by omega,⟨_,hlast,by rw [M1];show (m.id.toNat:Int)=m.id;omega,by rw [M3];exact htag,by unfold Of;rw [M2];exact ⟨rfl,rfl⟩⟩,fun y hy hoy=>?_,fun y hy he=>?_,fun j hj=>?_⟩
     . unfold Of at hoy
       rw [M2] at hoy;rw [M1];rcases zy10.1 hy with hy | hy
       . exact (ha y hy hoy).1
       . rw [zy7] at hy;subst hy;show (m.id.toNat:Int)<=m.id;omega
     . rw [M1] at he
       rw [M4];rcases zy10.1 hy with hy | hy
       . have:=hb y hy he;omega
       . rw [zy7] at hy;subst hy;show m.parts<m.parts+1;omega
     . rw [M4] at hj
       rw [M1];rcases zy140 (j:Int) m.parts with hlt | hge
       . obtain ⟨y,e1,e2⟩:=hd j hlt
         exact ⟨y,hmem y e1,e2⟩
       . exact ⟨_,hlast,by show (m.id.toNat:Int)=m.id;omega,by show m.parts=j;omega,hdne⟩
   . have b:=h.begun q (zy5 hi) hmn
     obtain ⟨z0,z1,z2⟩:=b.one;refine ⟨b.some,⟨z0,hmem z0 z1,z2⟩,fun y hy hoy=>?_,fun y hy he=>?_,fun j hj=>?_⟩
     . rcases zy10.1 hy with hy | hy
       . exact b.top y hy hoy
       . rw [zy7] at hy;subst hy
         have:=(hf i q hik hi hoy).2 hmn;show (m.id.toNat:Int)<=q.id;omega
     . rcases zy10.1 hy with hy | hy
       . exact b.part y hy he
       . rw [zy7] at hy;subst hy
         have he:(m.id.toNat:Int)=q.id:=he;exact absurd zz0 (hne i q hik hi)
     . obtain ⟨y,e1,e2⟩:=b.all j hj
       exact ⟨y,hmem y e1,e2⟩
 . rcases zy10.1 hy with hy | hy
   . exact Int.lt_of_lt_of_le (h.mids y hy) (yhi s m hmids _)
   . rw [zy7] at hy;subst hy
     show tag (zbt s m)<_;rw [htag];exact he5
 . have hn:n∈zcz s m:=hn
   rw [zy4,zy48];rcases ysq hn hmids with hn | hn
   . have:=h.midn n hn;push_cast;omega
   . have:=h.midn _ hn;push_cast;omega
 . rcases h.whole id hid h3 with ⟨q,e1,e2⟩ | e1
   . obtain ⟨i,hi⟩:=zy33 e1
     by_cases hik:i=k
     . subst hik
       rw [hm] at hi;cases hi;by_cases hov:m.sent+many s m=m.message.data.length
       . right
         intro w hw2 j hj;rw [show id=m.id.toNat by omega,hL] at hw2;cases hw2;rcases zy140 (j:Int) m.parts with hlt | hge
         . obtain ⟨y,y1,y2,y3⟩:=hd j hlt
           exact ⟨y,hmem y y1,by omega,y3⟩
         . have hjp:(j:Int)=m.parts:=by
            apply Classical.byContradiction;intro hc;have e5:(m.parts+1)*c.part<=j*c.part:=zy109 zz0 zz0;have e6:(m.parts+1)*c.part=m.parts*c.part+c.part:=by rw [Int.add_mul,Int.one_mul]
            have e7:many s m<=c.part:=by unfold many;rw [<- hP];split<;>omega
            have e8:m.sent=m.parts*c.part:=by rw [<- hP];exact q3
            omega
           exact ⟨_,hlast,by show m.id.toNat=id;omega,by show m.parts=j;omega,hdne⟩
       . left
         refine ⟨M,?_,by omega⟩;rw [hqueue,zy0 (by simpa using hov)];exact zy5 (zy17 (zci hm))
     . left
       refine ⟨q,?_,e2⟩;rw [hqueue];split
       . refine List.mem_eraseIdx_iff_getElem?.2 ⟨i,hik,hi⟩
       . exact zy5 (i:=i) (by rw [zy29 (fun h=>hik h.symm)];exact hi)
   . exact .inr e1.more
 . have h2:s.fates[id]?=some 2:=h2
   rcases zei hy with hy | ⟨rfl,rfl⟩
   . exact h.told id h2 i y hy he
   . have he:m.id.toNat=id:=he
     rw [<- he,q7] at h2;cases h2
theorem xjd {p q:zfs} (h:GS c L H A p.s) (hs:SI N p.s) (hN:N<=500) (hk:KI L p.s) (ho:zre c H A p) (hq:next p=some q):∃ E,GS c L (H++E) A q.s/\zre c (H++E) A q/\q.s.fates=p.s.fates:=by
 obtain ⟨s,o⟩:=p;unfold next at hq;dsimp only at hq h hs hk;split at hq
 . cases hq
 rename_i c1;obtain ⟨k,hkl,hk1,hk2⟩:=ysr (turns:=s.config.turns) (s:=s.sched) (q:=s.queue) (by show 0<=zdh s;omega);have hkn:(zdh s).toNat=k:=by show (Sch.next _ _ _).toNat=k;rw [hk1];omega
 rw [hkn,zy2 hkl] at hq;dsimp only at hq;split at hq
 . cases hq
 . cases hq
   rw [zjd];obtain ⟨g1,g2⟩:=xma h hs hN hk (zy2 hkl) hk2;obtain ⟨g3,g4,g5⟩:=xfj (p:=⟨zrj s k s.queue[k],o⟩) (i:=s.out.length) (path:=Snd.choose s) (x:=⟨s.next,(s.queue[k]).id,0,0,0,0,(s.queue[k]).came,(s.queue[k]).message.life,(s.queue[k]).message.tries,cut s s.queue[k] (many s s.queue[k])⟩) g1 (fun l hl ch hc=>(ho l hl ch hc).more (fun _ h=>h) (fun _ h=>h)) (by show (s.out++[_])[s.out.length]?=_;simp) g2;exact ⟨_,g3,g4,g5⟩
theorem ypn:∀ (n:Nat) {H:List Prt} {p:zfs},GS c L H A p.s->SI N p.s->N<=500->KI L p.s->zre c H A p->∃ E,GS c L (H++E) A (zga n p).s/\zre c (H++E) A (zga n p)/\(zga n p).s.fates=p.s.fates
 | 0,H,p,h,_,_,_,ho=>⟨[],by rw [zy9];exact ⟨h,ho,rfl⟩⟩
 | n+1,H,p,h,hs,hN,hk,ho=>by
  rw [zga];cases hq:next p with
  | none=>exact ⟨[],by rw [zy9];exact ⟨h,ho,rfl⟩⟩
  | some q =>
   obtain ⟨E,g1,g2,g3⟩:=xjd h hs hN hk ho hq;obtain ⟨E2,k1,k2,k3⟩:=ypn n g1 (yde hs hq) hN (yxv hk hq) g2;exact ⟨E++E2,by rw [<- zy24];exact ⟨k1,k2,k3.trans g3⟩⟩
theorem ykf {F:Nat->Prop} (hi:HI c L H) {ch:Chunk} (h:zoo c H A F ch):zoo c H A F (Chk.clean ch):=by
 rcases h with ⟨i,y,h1,h2,h3⟩ | ⟨h1,n,h2,h3,h4,h5,h6⟩
 . obtain ⟨t1,-,t3,t4,t5⟩:=hi.tag i y h1
   refine .inl ⟨i,y,h1,?_,?_⟩
   . rw [h2]
     unfold Chk.clean;rw [zy1 t1];generalize y.chunk=z at t1 t3 t4 t5;obtain ⟨a,b,d,e,f,g,k,l,m,n,o⟩:=z;dsimp only at t3 t4 t5 ⊢;subst t3 t4 t5;rfl
   . unfold Chk.clean
     rw [h2,zy1 t1];rw [h2] at h3;exact h3
 . refine .inr ⟨by rw [Chk.yro];exact h1,n,h2,h3,by rw [Chk.yuy];exact h4,h5,?_⟩
   have:(Chk.clean ch).zbv=ch.zbv:=by unfold Chk.clean;rw [zy0 (by omega),zy0 (by omega)]
   rw [this];exact h6
theorem yie {l:List Chunk} {most:Int} (h:(Pck.zcu l most).2=0):∀ ch∈(Pck.zfe (Pck.zcu l most).1).1,∃ d∈l,ch=Chk.clean d:=by
 obtain ⟨h1,h2,h3,h4⟩:=Pck.xqe h;rw [h4];intro ch hc;unfold Pck.zfe at hc;split at hc
 . cases hc
 . rw [Pck.zjt (zy19 _) h2] at hc
   obtain ⟨d,hd,rfl⟩:=zy23.1 hc;exact ⟨d,hd,rfl⟩
theorem xdw {most path:Int} {l:List Chunk} {p:zba} (h:p∈zmd most path l):p.back=false/\p.path=path/\∀ ch∈(Pck.zfe p.bytes).1,∃ d∈l,ch=Chk.clean d:=by
 unfold zmd at h;split at h
 . rename_i c1
   rw [zy7] at h;subst h;refine ⟨rfl,rfl,fun ch hc=>?_⟩;obtain ⟨d,hd,e⟩:=yie c1 ch hc;exact ⟨d,zy62 hd,e⟩
 . cases h
theorem ypw {most path:Int}:∀ {n:Nat} {l:List Chunk} {p:zba},p∈zgu most path n l->p.back=false/\p.path=path/\∀ ch∈(Pck.zfe p.bytes).1,∃ d∈l,ch=Chk.clean d
 | 0,l,p,h=>by cases h
 | n+1,l,p,h=>by
  unfold zgu at h;split at h
  . cases h
  . rcases zy10.1 h with h | h
    . exact xdw h
    . obtain ⟨h1,h2,h3⟩:=ypw h
      refine ⟨h1,h2,fun ch hc=>?_⟩;obtain ⟨d,hd,e⟩:=h3 ch hc;exact ⟨d,zy70 hd,e⟩
theorem zxb {most:Int}:∀ {ls:List (List Chunk)} {k:Nat} {p:zba},p∈zbw most k ls->p.back=false/\∀ ch∈(Pck.zfe p.bytes).1,∃ l∈ls,∃ d∈l,ch=Chk.clean d
 | [],k,p,h=>by cases h
 | l::ls,k,p,h=>by
  unfold zbw at h;rcases zy10.1 h with h | h
  . obtain ⟨h1,-,h2⟩:=ypw h
    exact ⟨h1,fun ch hc=>⟨l,by simp,h2 ch hc⟩⟩
  . obtain ⟨h1,h2⟩:=zxb h
    refine ⟨h1,fun ch hc=>?_⟩;obtain ⟨l',k1,k2⟩:=h2 ch hc;exact ⟨l',by simp [k1],k2⟩
theorem xjt (h:GS c L H A s) (hs:SI N s) (hN:N<=500) (hk:KI L s):∃ E,GS c L (H++E) A (zfc s).1/\(∀ k,gF s k->gF (zfc s).1 k)/\∀ p∈(zfc s).2,p.back=false/\∀ ch∈(Pck.zfe p.bytes).1,zoo c (H++E) A (gF (zfc s).1) ch:=by
 obtain ⟨E,g1,g2⟩:=yvl h hs hN;have s1:=(zmi hs).1;have k1:=yfr hk hs;have o1:zre c (H++E) A ⟨expire s,List.replicate s.paths.length []⟩:=by
  intro l hl ch hc;have:=zy51 hl;subst this;cases hc
 obtain ⟨g3,o2,f1⟩:=yrx (p:=⟨expire s,List.replicate s.paths.length []⟩) g1 s1 o1;have s2:=znl (o:=List.replicate s.paths.length []) s1;have k2:=zzt (o:=List.replicate s.paths.length []) k1;obtain ⟨g4,o3,f2⟩:=yet (path:=Snd.choose (forward ⟨expire s,List.replicate s.paths.length []⟩).s) (List.range (forward ⟨expire s,List.replicate s.paths.length []⟩).s.out.length) g3 o2;have s3:=zue s2;have k3:=zve (path:=Snd.choose (forward ⟨expire s,List.replicate s.paths.length []⟩).s) (List.range (forward ⟨expire s,List.replicate s.paths.length []⟩).s.out.length) k2;obtain ⟨E2,g5,o4,f3⟩:=ypn 61 g4 s3 hN k3 o3;have hfa:(zfc s).1.fates=(expire s).fates:=f3.trans (f2.trans f1);refine ⟨E++E2,?_,fun k hk=>?_,fun p hp=>?_⟩
 . rw [<- zy24]
   exact g5.congr rfl rfl rfl rfl rfl rfl rfl rfl
 . have:=g2 k hk
   unfold gF at this ⊢;rw [hfa];exact this
 . obtain ⟨b1,b2⟩:=zxb hp
   refine ⟨b1,fun ch hc=>?_⟩;obtain ⟨l,l1,d,d1,rfl⟩:=b2 ch hc;rw [<- zy24];exact ykf g5.hi (o4 l l1 d d1)
end
end Gh
namespace Gh
open Ser Snd
def zki (c:Config) (H:List Prt) (A F:Nat->Prop) (ch:Chunk):Prop:=∃ n:Int,c.first-1<=n/\n<c.first+H.length/\tag ch.tag=tag n/\(∀ (i:Nat) y,H[i]?=some y->c.first+i<=n->A i\/F y.id) /\
 (∀ t∈ch.zaq,n+t.hi<c.first+H.length)/\∀ i:Nat,n<c.first+i->has ch.zaq (c.first+i-n)=true->A i
section
variable {c:Config} {L:List Message} {H:List Prt} {A F:Nat->Prop} {s:zab} {N:Nat}
theorem zki.more {E:List Prt} {B G:Nat->Prop} {ch:Chunk} (h:zki c H A F ch) (hA:∀ i,A i->B i) (hF:∀ i,F i->G i):zki c (H++E) B G ch:=by
 obtain ⟨n,h1,h2,h3,h4,h5,h6⟩:=h;exact ⟨n,h1,by rw [zy4];push_cast;omega,h3,fun i y hy hle=>(h4 i y (yka hy zz0) hle).imp (hA i) (hF _),fun t ht=>by have:=h5 t ht;rw [zy4];push_cast;omega,fun i hlt hh=>hA i (h6 i hlt hh)⟩
theorem yzi (h:GS c L H A s) (hs:SI N s):GS c L H A (Snd.settle s):=by
 have hf:(Snd.settle s).fates=s.fates.mapIdx fun id f=>settled s id f:=rfl
 have hget:∀ k:Nat,(Snd.settle s).fates[k]?=(s.fates[k]?).map (settled s k):=fun k=>by rw [hf,zy47]
 have h3:∀ k:Nat,s.fates[k]?=some 3↔(Snd.settle s).fates[k]?=some 3:=by
  intro k;rw [hget];cases hz:s.fates[k]? with
  | none=>simp
  | some f =>
   show some f=some 3↔some (settled s k f)=some 3;unfold settled;split
   . rename_i c1;rw [c1.1];simp
   . rfl
 have hlen:=h.num hs;have hcu:=hs.cum;rw [h.cfg] at hcu;refine ⟨h.cfg,h.hi,h.len,h.out,h.stop,fun x hx h4=>(h3 _).1 (h.gone x hx h4),h.zfm,fun i y hy hle=>(h.done i y hy hle).imp (fun z=>z) (h3 _).1,h.ids,h.zfu,h.hand,h.handn,h.fresh,h.begun,h.mids,h.midn,fun id hid hne=>h.whole id hid fun h5=>hne ((h3 _).1 h5),fun id h2 i y hy he=>?_⟩;rw [hget] at h2;cases hz:s.fates[id]? with
 | none=>rw [hz] at h2;cases h2
 | some f =>
  rw [hz] at h2;have h2:settled s id f=2:=by simpa using h2
  unfold settled at h2;split at h2
  . rename_i c1
    obtain ⟨c2,c3,c4⟩:=c1;subst c2;by_cases hle:c.first+i<=s.cum
    . rcases h.done i y hy hle with h5 | h5
      . exact h5
      . rw [he,hz] at h5;cases h5
    . have hi:=zci hy
      obtain ⟨k,hk⟩:∃ k,i=(s.cum+1-c.first).toNat+k:=⟨i-(s.cum+1-c.first).toNat,by omega⟩
      obtain ⟨x,hx⟩:∃ x,s.out[k]?=some x:=⟨_,zy2 zz0⟩
      obtain ⟨z,z1,z2,-⟩:=h.out k x hx;rw [<- hk,hy] at z1;cases z1;rw [zy114] at c4;have c5:=c4 x (zy5 hx);rw [hk];refine h.zfm k x hx ?_;apply Classical.byContradiction;intro hne;exact c5 (by rw [zy14];exact ⟨zy12 (by omega),zy12 hne⟩)
  . subst h2
    exact h.told id hz i y hy he
theorem zxr (s:zab) {k:Nat} (h:gF s k):gF (Snd.settle s) k:=by
 unfold gF at h ⊢;show (s.fates.mapIdx fun id f=>settled s id f)[k]?=_;rw [zy47,h];show some (settled s k 3)=some 3;rw [settled,zy0 (by rintro ⟨h,-⟩;cases h)]
theorem xil (h:GS c L H A s) (hs:SI N s) (hN:N<=500) {ch:Chunk} (ho:zki c H A (gF s) ch):GS c L H A (zjo s ch)/\∀ k,gF s k->gF (zjo s ch) k:=by
 obtain ⟨n,n1,n2,n3,n4,-,n5⟩:=ho;have hlen:=h.num hs;have hcap:=h.few hs;have hcu:=hs.cum;have hw:=zca hs.cfg;rw [h.cfg] at hcu hw;have hnear:zcw s.cum ch.tag=n:=Rcv.zhd zz0 zz0 zz0 zz0 n3.symm;unfold zjo;by_cases c1:ch.kind≠2
 . rw [zy1 c1];exact ⟨h,fun _ h=>h⟩
 rw [zy0 c1];by_cases c2:zcw s.cum ch.tag<s.cum\/zcw s.cum ch.tag>s.cum+s.out.length
 . rw [zy1 c2];exact ⟨h,fun _ h=>h⟩
 rw [zy0 c2,zil];have hsi:=zwl hs c2;have hfil:=zlh hs.nums (show s.cum<=zcw s.cum ch.tag by omega);have e1:(Sco.zex s.out s.cum ch s.paths.length).1=(s.out.drop (n-s.cum).toNat).map fun x=>Sco.age (Sco.zgi ch n s.out) (Sco.zbf ch n x):=by
  rw [Sco.zex,zy0 c2];dsimp only;rw [Sco.left,hfil,zy94,hnear];rfl
 have e2:(Sco.zex s.out s.cum ch s.paths.length).2.1=n:=by rw [Sco.zex,zy0 c2];exact hnear
 rw [hnear] at c2;have hst:∀ x:zbr,(Sco.age (Sco.zgi ch n s.out) (Sco.zbf ch n x)).id=x.id/\(Sco.age (Sco.zgi ch n s.out) (Sco.zbf ch n x)).chunk=x.chunk /\
  ((x.state=4\/x.state=0)->(Sco.age (Sco.zgi ch n s.out) (Sco.zbf ch n x)).state=x.state)/\((Sco.age (Sco.zgi ch n s.out) (Sco.zbf ch n x)).state=4->x.state=4)/\((Sco.age (Sco.zgi ch n s.out) (Sco.zbf ch n x)).state=2->x.state=2\/Sco.here ch n x=true):=by
  intro x;have t:(Sco.zbf ch n x).id=x.id/\(Sco.zbf ch n x).chunk=x.chunk/\((x.state=4\/x.state=0)->(Sco.zbf ch n x).state=x.state)/\((Sco.zbf ch n x).state=4->x.state=4)/\((Sco.zbf ch n x).state=2->x.state=2\/Sco.here ch n x=true):=by
   unfold Sco.zbf;split
   . rename_i c3
     unfold Sco.comes at c3;simp only [zy14,zy74,zy44] at c3;exact ⟨rfl,rfl,fun h=>by omega,fun h=>by (cases h),fun _=>.inr c3.1⟩
   . exact ⟨rfl,rfl,fun _=>rfl,fun h=>h,.inl⟩
  obtain ⟨t1,t2,t3,t4,t5⟩:=t;generalize Sco.zbf ch n x=y at t1 t2 t3 t4 t5;unfold Sco.age;split
  . rename_i c3
    split
    . exact ⟨t1,t2,fun h=>by have:=t3 h;omega,fun h=>by (cases h),fun h=>by (cases h)⟩
    . exact ⟨t1,t2,t3,t4,t5⟩
  . exact ⟨t1,t2,t3,t4,t5⟩
 have hT:GS c L H A (zfd s ch (Sco.zex s.out s.cum ch s.paths.length)):=by
  have o1:(zfd s ch (Sco.zex s.out s.cum ch s.paths.length)).out=(s.out.drop (n-s.cum).toNat).map fun x=>Sco.age (Sco.zgi ch n s.out) (Sco.zbf ch n x):=e1
  have o2:(zfd s ch (Sco.zex s.out s.cum ch s.paths.length)).cum=n:=e2;have xcf:∀ k:Nat,(n+1-c.first).toNat+k=(s.cum+1-c.first).toNat+((n-s.cum).toNat+k):=fun k=>by omega
  refine ⟨h.cfg,h.hi,h.len,fun k x hx=>?_,fun x hx hd=>?_,fun x hx h4=>?_,fun k x hx h2=>?_,fun i y hy hle=>?_,h.ids,h.zfu,h.hand,h.handn,h.fresh,h.begun,h.mids,h.midn,h.whole,h.told⟩
  . rw [o1,zy13,zy46] at hx
    rw [o2,xcf];cases hy:s.out[(n-s.cum).toNat+k]? with
    | none=>rw [hy] at hx;cases hx
    | some y =>
     rw [hy] at hx;cases hx;obtain ⟨w,w1,w2,w3⟩:=h.out _ y hy;exact ⟨w,w1,(hst y).1.trans w2,(hst y).2.1.trans w3⟩
  . rw [o1] at hx
    obtain ⟨y,hy,rfl⟩:=zy23.1 hx;rw [(hst y).2.1] at hd;have h5:=h.stop y (zy70 hy) hd;rw [(hst y).2.2.1 h5];exact h5
  . rw [o1] at hx
    obtain ⟨y,hy,rfl⟩:=zy23.1 hx;rw [(hst y).1];exact h.gone y (zy70 hy) ((hst y).2.2.2.1 h4)
  . rw [o1,zy13,zy46] at hx
    rw [o2,xcf];cases hy:s.out[(n-s.cum).toNat+k]? with
    | none=>rw [hy] at hx;cases hx
    | some y =>
     rw [hy] at hx;cases hx;rcases (hst y).2.2.2.2 h2 with h5 | h5
     . exact h.zfm _ y hy h5
     . have hnum:=hs.nums _ y hy
       have hk:=zci hy;unfold Sco.here at h5;rw [zy74,zy41] at h5;rcases h5 with h5 | h5
       . omega
       . rw [zbg (by omega) (by omega)] at h5
         refine n5 _ zz0 ?_;rw [show c.first+(((s.cum+1-c.first).toNat+((n-s.cum).toNat+k):Nat):Int)-n=y.number-n by rw [hnum];omega];exact h5
  . rw [o2] at hle
    exact n4 i y hy hle
 have hU:GS c L H A (zge s.config.part (zfd s ch (Sco.zex s.out s.cum ch s.paths.length)) (Sco.zex s.out s.cum ch s.paths.length).2.2.2):=by
  unfold zge;split
  . exact hT
  . split
    . exact hT.congr rfl rfl rfl rfl rfl rfl rfl rfl
    . exact hT
 have hUs:=ygl hsi (part:=s.config.part) (L:=(Sco.zex s.out s.cum ch s.paths.length).2.2.2);have hUf:(zge s.config.part (zfd s ch (Sco.zex s.out s.cum ch s.paths.length)) (Sco.zex s.out s.cum ch s.paths.length).2.2.2).fates=s.fates:=by
  unfold zge;split
  . rfl
  . split<;>rfl
 generalize zge s.config.part (zfd s ch (Sco.zex s.out s.cum ch s.paths.length)) (Sco.zex s.out s.cum ch s.paths.length).2.2.2=u at hU hUs hUf;generalize decide ((Sco.zex s.out s.cum ch s.paths.length).2.1>s.cum)=b;have hV:GS c L H A (zej b u):=by
  unfold zej;split
  . exact hU.congr rfl rfl rfl rfl rfl rfl rfl rfl
  . exact hU
 have hVf:(zej b u).fates=u.fates:=by unfold zej;split<;>rfl
 refine ⟨yzi hV (ygm hUs),fun k hk=>zxr _ ?_⟩;unfold gF at hk ⊢;rw [hVf,hUf];exact hk
theorem xcx (h:GS c L H A s) (part:Int) (i:Nat):GS c L H A (zdy part s i)/\(zdy part s i).fates=s.fates:=by
 unfold zdy;split
 . exact ⟨h,rfl⟩
 rename_i p hp;split
 . exact ⟨h,rfl⟩
 have g:=h.mapOut (g:=Sco.late i) (fun x=>by unfold Sco.late;split<;>exact ⟨rfl,rfl⟩) (fun x _ _ hx=>by
  unfold Sco.late;split
  . rename_i c1;omega
  . exact hx) (fun x _ hx=>by
  unfold Sco.late at hx;split at hx
  . cases hx
  . exact .inl hx) (fun x _ hx=>by
  unfold Sco.late at hx;split at hx
  . cases hx
  . exact hx)
 dsimp only;split
 . exact ⟨g.congr rfl rfl rfl rfl rfl rfl rfl rfl,rfl⟩
 . exact ⟨g.congr rfl rfl rfl rfl rfl rfl rfl rfl,rfl⟩
theorem yph (part:Int):∀ (l:List Nat) {s:zab},GS c L H A s->GS c L H A (l.foldl (zdy part) s)/\(l.foldl (zdy part) s).fates=s.fates
 | [],_,h=>⟨h,rfl⟩
 | i::l,s,h=>by
  obtain ⟨h1,h2⟩:=xcx h part i;obtain ⟨k1,k2⟩:=yph part l h1;exact ⟨k1,k2.trans h2⟩
theorem xkm (h:GS c L H A s):GS c L H A (tick s)/\(tick s).fates=s.fates :=
 yph _ _ (s:={s with clock:=W (s.clock+1)}) (h.congr rfl rfl rfl rfl rfl rfl rfl rfl)
theorem xkd (h:GS c L H A s) (hs:SI N s) (hk:KI L s) (m:Message):GS c (L++[m]) H A (zgb s m)/\∀ k,gF s k->gF (zgb s m) k:=by
 have hkl:=hk.len;have hmore:∀ {i:Nat} {w:Message},L[i]?=some w->(L++[m])[i]?=some w:=fun h=>zjz h
 have hidl:∀ x∈H,x.id<L.length:=fun x hx=>by obtain ⟨w,w1,-⟩:=h.hi.msg x hx;exact zci w1
 have hg:∀ k:Nat,s.fates[k]?=some 3->(s.fates++[1])[k]?=some 3:=fun k hk=>zjz hk
 have hg2:∀ (k:Nat) (z:Int),z≠1->(s.fates++[1])[k]?=some z->s.fates[k]?=some z:=fun k z hz hk=>by
  rcases zei hk with hk | ⟨-,rfl⟩
  . exact hk
  . exact absurd rfl hz
 have hq:∀ q∈(zgb s m).queue,q∈s.queue\/q=⟨s.fates.length,-1,s.clock,0,0,m⟩:=fun q hq=>by
  rcases zy10.1 hq with hq | hq
  . exact .inl hq
  . exact .inr (zy7.1 hq)
 refine ⟨⟨h.cfg,⟨h.hi.tag,fun x hx=>?_,h.hi.mid,h.hi.key,h.hi.order,h.hi.part⟩,h.len,h.out,h.stop,fun x hx h4=>hg _ (h.gone x hx h4),h.zfm,fun i y hy hle=>(h.done i y hy hle).imp (fun z=>z) (hg _),fun q hq'=>?_,?_,fun q hq' hh=>?_,?_,fun q hq' hmn=>?_,fun q hq' hmn=>?_,h.mids,h.midn,fun id hid h3=>?_,fun id h2=>h.told id (hg2 id 2 zz5 h2)⟩,hg⟩
 . obtain ⟨w,w1,w2⟩:=h.hi.msg x hx
   exact ⟨w,hmore w1,w2⟩
 . rcases hq q hq' with hq' | rfl
   . exact h.ids q hq'
   . show (0:Int)<=s.fates.length;omega
 . refine zy111.2 ⟨h.zfu,by simp,fun a ha b hb=>?_⟩
   rw [zy7] at hb;subst hb;exact (hs.queue a ha).id1
 . have hh:q.id=s.sched.hand:=hh
   rcases hq q hq' with hq' | rfl
   . exact h.hand q hq' hh
   . have:=h.handn
     have hh:(s.fates.length:Int)=s.sched.hand:=hh;omega
 . have:=h.handn
   show s.sched.hand<((L++[m]).length:Int);rw [zy4];push_cast;omega
 . rcases hq q hq' with hq' | rfl
   . exact h.fresh q hq' hmn
   . refine ⟨rfl,fun y hy _=>?_⟩
     have:=hidl y hy;show (y.id:Int)<s.fates.length;omega
 . rcases hq q hq' with hq' | rfl
   . exact h.begun q hq' hmn
   . have hmn:(0:Int)<=-1:=hmn
     omega
 . rw [zy4,zy48] at hid
   by_cases e:id=L.length
   . exact .inl ⟨⟨s.fates.length,-1,s.clock,0,0,m⟩,zy144 _ zz3,by show (s.fates.length:Int)=id;omega⟩
   . rcases h.whole id zz0 fun h5=>h3 (hg _ h5) with ⟨q,e1,e2⟩ | e1
     . exact .inl ⟨q,zy67 _ e1,e2⟩
     . right
       intro w hw;rcases zei hw with hw | ⟨hw,-⟩
       . exact e1 w hw
       . exact absurd hw e
theorem xmx {c:Config} (hw:zob c=0) (A:Nat->Prop):GS c [] [] A (zrx c):=by
 have h2:=zca hw;refine ⟨rfl,⟨by simp,by simp,by simp,by simp,by simp,by simp⟩,by show c.first+((([]:List Prt).length:Nat):Int)=c.first;simp,by simp [zrx],by simp [zrx],by simp [zrx],by simp [zrx],by simp,by simp [zrx],by simp [zrx],by simp [zrx],by show (-1:Int)<_;simp,by simp [zrx],by simp [zrx],by simp,fun n hn=>?_,by simp,by simp [zrx]⟩;have:n=0:=zy51 hn;subst this;simp
end
end Gh
namespace Gh
open Ser Srt Jn Rcv
def yum (L:List Message) (H:List Prt) (id:Nat) (a:zcr):Prop:=∃ m,L[id]?=some m/\a.stream=m.stream/\a.ordered=m.ordered/\a.data=m.data/\∃ y∈H,y.id=id
structure GR (c:Config) (L:List Message) (H:List Prt) (A F:Nat->Prop) (D:List Nat) (r:Receiver):Prop where
 lo:c.first-1<=r.cum
 hi:r.cum<c.first+H.length
 zfu:Ser.zfu r.zaq
 zew:∀ s∈r.zaq,r.cum+1<s.lo
 spanh:∀ s∈r.zaq,s.hi<c.first+H.length
 span:∀ i:Nat,has r.zaq (c.first+i)=true->A i
 cum:∀ (i:Nat) y,H[i]?=some y->c.first+i<=r.cum->A i\/F y.id
 acc:∀ i:Nat,A i->i<H.length/\(c.first+i<=r.cum\/has r.zaq (c.first+i)=true)
 pieces:∀ p∈r.pieces,∃ (i:Nat) (y:Prt),H[i]?=some y/\p.number=c.first+i/\p.chunk=y.chunk/\y.chunk.data≠[]/\A i/\y.id∉D
 apart:r.pieces.Pairwise fun p q=>p.number≠q.number
 kept:∀ (i:Nat) y,H[i]?=some y->A i->(∃ p∈r.pieces,p.number=c.first+i)\/y.id∈D\/F y.id
 logl:D.length=r.log.length
 log:∀ (k:Nat) id a,D[k]?=some id->r.log[k]?=some a->yum L H id a
 once:D.Nodup
 dall:∀ id∈D,Whole c L H id/\∀ (i:Nat) y,H[i]?=some y->y.id=id->y.chunk.data≠[]->A i
 streams:(r.zbf.length:Int)=c.streams
 turn0:∀ t∈r.zbf,0<=t
 zbf:∀ (k:Nat) t,r.zbf[k]?=some t->t=0\/∃ y∈H,y.chunk.stream=k/\y.chunk.ordered=true/\t<=y.chunk.mid+1
 past:∀ (k:Nat) t,r.zbf[k]?=some t->∀ y∈H,y.chunk.stream=k->y.chunk.ordered=true->y.chunk.mid<t->y.id∈D\/F y.id
 dturn:∀ (k:Nat) t,r.zbf[k]?=some t->∀ y∈H,y.id∈D->y.chunk.stream=k->y.chunk.ordered=true->y.chunk.mid<t
 dord:D.Pairwise fun a b=>∀ x∈H,∀ y∈H,x.id=a->y.id=b->Cls x.chunk y.chunk->x.chunk.ordered=true->a<b
section
variable {c:Config} {L:List Message} {H:List Prt} {A F:Nat->Prop} {D:List Nat} {r:Receiver}
theorem yum.more {E:List Prt} {M:List Message} {id:Nat} {a:zcr} (h:yum L H id a):yum (L++M) (H++E) id a:=by
 obtain ⟨m,h1,h2,h3,h4,y,h5,h6⟩:=h;exact ⟨m,zjz h1,h2,h3,h4,y,zy67 _ h5,h6⟩
theorem GR.goneMore {G:Nat->Prop} (h:GR c L H A F D r) (hF:∀ k,F k->G k):GR c L H A G D r :=
 ⟨h.lo,h.hi,h.zfu,h.zew,h.spanh,h.span,fun i y h1 h2=>(h.cum i y h1 h2).imp id (hF _),h.acc,h.pieces,h.apart,fun i y h1 h2=>(h.kept i y h1 h2).imp id (Or.imp id (hF _)),h.logl,h.log,h.once,h.dall,h.streams,h.turn0,h.zbf,fun k t h1 y h2 h3 h4 h5=>(h.past k t h1 y h2 h3 h4 h5).imp id (hF _),h.dturn,h.dord⟩
theorem Whole.lmore {M:List Message} {id:Nat} (h:Whole c L H id) (hid:id<L.length):Whole c (L++M) H id:=fun m hm=>h m (by rwa [zy26 hid] at hm)
theorem GR.lMore (h:GR c L H A F D r) (m:Message):GR c (L++[m]) H A F D r:=by
 have hl:∀ id∈D,id<L.length:=fun id hid=>by
  obtain ⟨k,hk⟩:=zy33 hid;obtain ⟨w,w1,-⟩:=h.log k id (r.log[k]'(by rw [<- h.logl];exact zci hk)) hk (zy2 _);exact zci w1
 exact ⟨h.lo,h.hi,h.zfu,h.zew,h.spanh,h.span,h.cum,h.acc,h.pieces,h.apart,h.kept,h.logl,fun k id a h1 h2=>by have:=(h.log k id a h1 h2).more (E:=[]) (M:=[m]);rwa [zy9] at this,h.once,fun id hid=>⟨(h.dall id hid).1.lmore (hl id hid),(h.dall id hid).2⟩,h.streams,h.turn0,h.zbf,h.past,h.dturn,h.dord⟩
theorem GR.ext (h:GR c L H A F D r) {E:List Prt} (hn:HI c L (H++E)):GR c L (H++E) A F D r:=by
 have hold:∀ {i:Nat} {y:Prt},(H++E)[i]?=some y->i<H.length->H[i]?=some y:=fun h1 h2=>yka h1 h2
 have hmem:∀ {y:Prt},y∈H->y∈H++E:=fun h=>zy67 _ h
 have hlen:((H++E).length:Int)=H.length+E.length:=by rw [zy4];push_cast;rfl
 have hdid:∀ id∈D,∃ y∈H,y.id=id:=fun id hid=>by
  obtain ⟨k,hk⟩:=zy33 hid;obtain ⟨-,-,-,-,-,y,y1,y2⟩:=h.log k id (r.log[k]'(by rw [<- h.logl];exact zci hk)) hk (zy2 _);exact ⟨y,y1,y2⟩
 have hrep:∀ y∈H++E,∀ y1∈H,Cls y.chunk y1.chunk->y.chunk.mid<=y1.chunk.mid->∃ z∈H,z.id=y.id/\z.chunk.mid=y.chunk.mid/\Cls z.chunk y.chunk:=by
  intro y hy y1 hy1 hc hle;rcases zy10.1 hy with h2 | h2
  . exact ⟨y,h2,rfl,rfl,⟨rfl,rfl⟩⟩
  . obtain ⟨j,hj⟩:=zy33 h2
    obtain ⟨i,hi⟩:=zy33 hy1;have k1:=hn.order i (H.length+j) y1 y (by have:=zci hi;omega) (zjz hi) (by rw [zy42 (by omega),zy163];exact hj) hc.symm;have k2:=hn.key y1 (hmem hy1) y hy hc.symm;have k3:=(hn.same hy (hmem hy1) hc).1;have e:y.id=y1.id:=by omega
    exact ⟨y1,hy1,e.symm,(k3 e).symm,hc.symm⟩
 refine ⟨h.lo,by have:=h.hi;omega,h.zfu,h.zew,fun s hs=>by have:=h.spanh s hs;omega,h.span,fun i y hy hle=>h.cum i y (hold hy (by have:=h.hi;omega)) hle,fun i hi=>⟨by have:=(h.acc i hi).1;rw [zy4];omega,(h.acc i hi).2⟩,fun p hp=>?_,h.apart,fun i y hy hA=>h.kept i y (hold hy (h.acc i hA).1) hA,h.logl,fun k id a h1 h2=>?_,h.once,fun id hid=>⟨(h.dall id hid).1.more,fun i y hy he hd=>?_⟩,h.streams,h.turn0,fun k t hk=>?_,fun k t hk y hy h1 h2 h3=>?_,fun k t hk y hy hd h1 h2=>?_,?_⟩
 . obtain ⟨i,y,p1,p2⟩:=h.pieces p hp
   exact ⟨i,y,zjz p1,p2⟩
 . have:=(h.log k id a h1 h2).more (E:=E) (M:=[])
   rwa [zy9] at this
 . obtain ⟨w1,w2⟩:=h.dall id hid
   rcases zy71 i H.length with hl | hl
   . exact w2 i y (hold hy hl) he hd
   . exfalso
     obtain ⟨m,m1,-,-,m2⟩:=hn.msg y (zy5 hy);have mp:=m2 hd;rw [he] at m1;obtain ⟨z,z1,z2,z3,-⟩:=w1 m m1 y.chunk.part.toNat (by have:=mp.part0;have:=mp.inn;rw [Int.toNat_of_nonneg mp.part0];exact mp.inn);obtain ⟨j,hj⟩:=zy33 z1;have:=hn.at (zjz hj) hy zz0 (by have:=mp.part0;omega);have:=zci hj;omega
 . rcases h.zbf k t hk with h1 | ⟨y,y1,y2⟩
   . exact .inl h1
   . exact .inr ⟨y,hmem y1,y2⟩
 . rcases h.zbf k t hk with h4 | ⟨y1,q1,q2,q3,q4⟩
   . have:=hn.mid y hy;omega
   . obtain ⟨z,z1,z2,z3,z4⟩:=hrep y hy y1 q1 ⟨h1.trans q2.symm,h2.trans q3.symm⟩ zz0
     rw [<- z2];exact h.past k t hk z z1 (z4.1.trans h1) (z4.2.trans h2) zz0
 . obtain ⟨z,z1,z2⟩:=hdid y.id hd
   have zc:=hn.cls (hmem z1) hy z2;have zm:=(hn.same (hmem z1) hy zc).1 z2;rw [<- zm];exact h.dturn k t hk z z1 (by rw [z2];exact hd) (zc.1.trans h1) (zc.2.trans h2)
 . refine h.dord.imp_of_mem fun {a b} ha hb hab x hx y hy hxa hyb hc ho=>?_
   obtain ⟨x',x1,x2⟩:=hdid a ha;obtain ⟨y',y1,y2⟩:=hdid b hb;have xc:=hn.cls (hmem x1) hx (x2.trans hxa.symm);have yc:=hn.cls (hmem y1) hy (y2.trans hyb.symm);exact hab x' x1 y' y1 x2 y2 (xc.trans (hc.trans yc.symm)) (xc.2.trans ho)
theorem GR.turnB (h:GR c L H A F D r) (hi:HI c L H) {k:Nat} {t:Int} (hk:r.zbf[k]?=some t):0<=t/\t<=H.length:=by
 refine ⟨h.turn0 t (zy5 hk),?_⟩;rcases h.zbf k t hk with h1 | ⟨y,y1,-,-,y2⟩
 . omega
 . have:=hi.mid y y1;omega
structure Dlv (c:Config) (L:List Message) (H:List Prt) (A:Nat->Prop) (D:List Nat) (r:Receiver) (s m:Int) (o:Bool) (b:List UInt8) (id:Nat) (w:Message):Prop where
 msg:L[id]?=some w
 new:id∉D
 stream:w.stream=s
 ord:w.ordered=o
 data:b=w.data
 one:∃ y∈H,y.id=id
 zdg:∀ y∈H,y.id=id↔(y.chunk.stream=s/\y.chunk.ordered=o/\y.chunk.mid=m)
 whole:Whole c L H id
 all:∀ (i:Nat) y,H[i]?=some y->y.id=id->y.chunk.data≠[]->A i
theorem zjs {s m:Int} {o:Bool} {p:zav}:zdg s m o p=true↔p.chunk.stream=s/\p.chunk.ordered=o/\p.chunk.mid=m:=by
 unfold zdg;simp only [zy14,zy41,zy44];exact ⟨fun h=>⟨h.1.1,h.2,h.1.2⟩,fun h=>⟨⟨h.1,h.2.2⟩,h.2.1⟩⟩
theorem ynj (h:GR c L H A F D r) (hi:HI c L H) (hP:1<=c.part) {s m:Int} {o:Bool} {b:List UInt8} (hj:join (r.pieces.filter (zdg s m o))=some b):∃ id w,Dlv c L H A D r s m o b id w:=by
 have hmul:∀ {a b:Int},a<=b->a*c.part<=b*c.part:=fun hab=>zy109 hab zz0
 obtain ⟨p0,hp0⟩:∃ p,p∈r.pieces.filter (zdg s m o):=List.exists_mem_of_length_pos (zuq hj);obtain ⟨g1,g2⟩:=zy54.1 hp0;obtain ⟨k1,k2,k3⟩:=zjs.1 g2;obtain ⟨i0,y0,q1,q2,q3,q4,q5,q6⟩:=h.pieces p0 g1;rw [q3] at k1 k2 k3;have hy0:=zy5 q1;obtain ⟨w,w1,w2,w3,w4⟩:=hi.msg y0 hy0;have hsame:∀ y∈H,y.id=y0.id↔(y.chunk.stream=s/\y.chunk.ordered=o/\y.chunk.mid=m):=by
  intro y hy
  constructor
  . intro e
    have hc:=hi.cls hy hy0 e;exact ⟨hc.1.trans k1,hc.2.trans k2,((hi.same hy hy0 hc).1 e).trans k3⟩
  . rintro ⟨e1,e2,e3⟩
    have hc:Cls y.chunk y0.chunk:=⟨e1.trans k1.symm,e2.trans k2.symm⟩
    exact (hi.same hy hy0 hc).2 (e3.trans k3.symm)
 have hpart:∀ p∈r.pieces.filter (zdg s m o),∃ (i:Nat) (y:Prt),H[i]?=some y/\y.id=y0.id/\p.chunk=y.chunk/\A i/\y.chunk.data≠[]/\zst c.part w p.chunk:=by
  intro p hp;obtain ⟨g3,g4⟩:=zy54.1 hp;obtain ⟨i,y,z1,z2,z3,z4,z5,z6⟩:=h.pieces p g3;have hy:=zy5 z1;have e:y.id=y0.id:=(hsame y hy).2 (by rw [<- z3];exact zjs.1 g4);obtain ⟨v,v1,v2,v3,v4⟩:=hi.msg y hy;rw [e,w1] at v1;cases v1;exact ⟨i,y,z1,e,z3,z5,z4,by rw [z3];exact v4 z4⟩
 have hbd:(w.data.length:Int)<=(r.pieces.filter (zdg s m o)).length*c.part:=by
  have hl:=zuq hj;obtain ⟨p,hp,e1,e2⟩:=znn hj ((r.pieces.filter (zdg s m o)).length-1) zz0;obtain ⟨-,-,-,-,-,-,-,hpo⟩:=hpart p hp;have hl2:=hpo.last;rw [e2,e1,zy12 (by omega)] at hl2;have hl3:=zy39 hl2.symm;have e3:(((r.pieces.filter (zdg s m o)).length:Nat):Int)*c.part=(((r.pieces.filter (zdg s m o)).length-1:Nat):Int)*c.part+c.part:=by
   have:(((r.pieces.filter (zdg s m o)).length:Nat):Int)=(((r.pieces.filter (zdg s m o)).length-1:Nat):Int)+1:=by omega
   rw [this,Int.add_mul,Int.one_mul]
  omega
 have hlt:∀ j:Nat,(j:Int)*c.part<w.data.length->j<(r.pieces.filter (zdg s m o)).length:=by
  intro j hj2;apply Classical.byContradiction;intro hc;have:=hmul (show (((r.pieces.filter (zdg s m o)).length:Nat):Int)<=j by omega);omega
 refine ⟨y0.id,w,w1,q6,w2.symm.trans k1,w3.symm.trans k2,xcs hP hj fun p hp=>by obtain ⟨-,-,-,-,-,-,-,hpo⟩:=hpart p hp;exact hpo,⟨y0,hy0,rfl⟩,hsame,fun v hv j hjp=>?_,fun i y hy he hd=>?_⟩
 . rw [w1] at hv
   cases hv;obtain ⟨p,hp,e1,-⟩:=znn hj j (hlt j hjp);obtain ⟨i,y,z1,z2,z3,z4,z5,-⟩:=hpart p hp;exact ⟨y,zy5 z1,z2,by rw [<- z3];exact e1,z5⟩
 . obtain ⟨v,v1,v2,v3,v4⟩:=hi.msg y (zy5 hy)
   rw [he,w1] at v1;cases v1;have hpo:=v4 hd;have p0:=hpo.part0;obtain ⟨p,hp,e1,-⟩:=znn hj y.chunk.part.toNat (hlt _ (by rw [Int.toNat_of_nonneg p0];exact hpo.inn));obtain ⟨i',y',z1,z2,z3,z4,z5,-⟩:=hpart p hp;have:=hi.at hy z1 (he.trans z2.symm) (by rw [<- z3,e1];omega);rw [this];exact z4
theorem yfl (h:GR c L H A F D r) {s m:Int} {o:Bool} {b:List UInt8} {id:Nat} {w:Message} (hd:Dlv c L H A D r s m o b id w) :
 (∀ p∈r.pieces.filter (fun p=>!zdg s m o p),∃ (i:Nat) (y:Prt),H[i]?=some y/\p.number=c.first+i/\p.chunk=y.chunk/\y.chunk.data≠[]/\A i/\y.id∉D++[id]) /\
 (∀ (i:Nat) y,H[i]?=some y->A i->(∃ p∈r.pieces.filter (fun p=>!zdg s m o p),p.number=c.first+i)\/y.id∈D++[id]\/F y.id) /\
 (∀ (k:Nat) id' a,(D++[id])[k]?=some id'->(r.log++[(⟨s,m,o,b⟩:zcr)])[k]?=some a->yum L H id' a)/\(D++[id]).Nodup /\
 (∀ id'∈D++[id],Whole c L H id'/\∀ (i:Nat) y,H[i]?=some y->y.id=id'->y.chunk.data≠[]->A i):=by
 refine ⟨fun p hp=>?_,fun i y hy hA=>?_,fun k id' a h1 h2=>?_,?_,fun id' hid=>?_⟩
 . obtain ⟨g1,g2⟩:=zy54.1 hp
   obtain ⟨i,y,z1,z2,z3,z4,z5,z6⟩:=h.pieces p g1;refine ⟨i,y,z1,z2,z3,z4,z5,fun hin=>?_⟩;rcases zy10.1 hin with hin | hin
   . exact z6 hin
   . rw [zy7] at hin
     have:=(hd.zdg y (zy5 z1)).1 hin;rw [<- z3] at this;rw [zjs.2 this] at g2;cases g2
 . rcases h.kept i y hy hA with ⟨p,p1,p2⟩ | h1 | h1
   . by_cases hm:zdg s m o p=true
     . obtain ⟨i',y',z1,z2,z3,z4,z5,z6⟩:=h.pieces p p1
       have:i'=i:=by omega
       subst this;rw [hy] at z1;cases z1
       right;left
       rw [(hd.zdg y (zy5 hy)).2 (by rw [<- z3];exact zjs.1 hm)];simp
     . exact .inl ⟨p,zy54.2 ⟨p1,by simp at hm;simp [hm]⟩,p2⟩
   . exact .inr (.inl (zy67 _ h1))
   . exact .inr (.inr h1)
 . rcases zei h1 with h1 | ⟨rfl,rfl⟩
   . rw [zy26 (by rw [<- h.logl];exact zci h1)] at h2
     exact h.log k id' a h1 h2
   . rw [h.logl,zy42 (zy19 _),zy91] at h2
     cases h2;exact ⟨w,hd.msg,hd.stream.symm,hd.ord.symm,hd.data,hd.one⟩
 . rw [zy164]
   exact ⟨h.once,by simp,fun a ha b hb=>by rw [zy7] at hb;subst hb;exact fun e=>hd.new (e ▸ ha)⟩
 . rcases zy10.1 hid with hid | hid
   . exact h.dall id' hid
   . rw [zy7] at hid;subst hid;exact ⟨hd.whole,hd.all⟩
theorem ztb (r:Receiver) (s m:Int) (o:Bool) (hj:join (r.pieces.filter (zdg s m o))=none):dlv r s m o=(r,false):=by unfold dlv;rw [hj]
theorem zvv (r:Receiver) (s m:Int) (o:Bool) {b:List UInt8} (hj:join (r.pieces.filter (zdg s m o))=some b):dlv r s m o=({zma r s m o with log:=r.log++[⟨s,m,o,b⟩]},true):=by unfold dlv;rw [hj]
theorem xmf (h:GR c L H A F D r) (hi:HI c L H) (hP:1<=c.part) (s m:Int):∃ D',GR c L H A F D' (dlv r s m false).1:=by
 cases hj:join (r.pieces.filter (zdg s m false)) with
 | none=>rw [ztb r s m false hj];exact ⟨D,h⟩
 | some b =>
  rw [zvv r s m false hj];obtain ⟨id,w,hd⟩:=ynj h hi hP hj;obtain ⟨a1,a2,a3,a4,a5⟩:=yfl h hd;refine ⟨D++[id],h.lo,h.hi,h.zfu,h.zew,h.spanh,h.span,h.cum,h.acc,a1,h.apart.filter _,a2,by show (D++[id]).length=(r.log++[_]).length;simp [h.logl],a3,a4,a5,h.streams,h.turn0,h.zbf,fun k t hk y hy h1 h2 h3=>(h.past k t hk y hy h1 h2 h3).imp (zy67 _) (fun z=>z),fun k t hk y hy hy2 h1 h2=>?_,?_⟩
  . rcases zy10.1 hy2 with hy2 | hy2
    . exact h.dturn k t hk y hy hy2 h1 h2
    . rw [zy7] at hy2
      have:=((hd.zdg y hy).1 hy2).2.1;rw [h2] at this;cases this
  . refine zy111.2 ⟨h.dord,by simp,fun a ha b' hb x hx y hy hxa hyb hc ho=>?_⟩
    rw [zy7] at hb;subst hb;have:=((hd.zdg y hy).1 hyb).2.1;rw [<- hc.2,ho] at this;cases this
theorem zjy {l:List Int} {k:Nat} {t:Int} (hk:l[k]?=some t) {j:Nat} {u:Int} (hu:(l.set k (l[k]?.getD 0+1))[j]?=some u):(j=k/\u=t+1)\/(j≠k/\l[j]?=some u):=by
 by_cases e:k=j
 . subst e
   rw [zy17 (zci hk),hk] at hu;cases hu;exact .inl ⟨rfl,rfl⟩
 . rw [zy29 e] at hu;exact .inr ⟨fun h=>e h.symm,hu⟩
theorem xfe (h:GR c L H A F D r) (hi:HI c L H) (hP:1<=c.part) (hs:H.length<=30500) {k:Nat} {t:Int} (hk:r.zbf[k]?=some t) (hok:(dlv r k (tag t) true).2=true):∃ D',GR c L H A F D' (yez (dlv r k (tag t) true).1 k):=by
 obtain ⟨t0,t1⟩:=h.turnB hi hk;have htag:tag t=t:=by unfold tag;omega
 rw [htag] at hok ⊢;cases hj:join (r.pieces.filter (zdg k t true)) with
 | none=>rw [ztb r k t true hj] at hok;cases hok
 | some b =>
  rw [zvv r k t true hj];obtain ⟨id,w,hd⟩:=ynj h hi hP hj;obtain ⟨a1,a2,a3,a4,a5⟩:=yfl h hd;obtain ⟨y0,y1,y2⟩:=hd.one;obtain ⟨m1,m2,m3⟩:=(hd.zdg y0 y1).1 y2;refine ⟨D++[id],h.lo,h.hi,h.zfu,h.zew,h.spanh,h.span,h.cum,h.acc,a1,h.apart.filter _,a2,by show (D++[id]).length=(r.log++[_]).length;simp [h.logl],a3,a4,a5,by show ((r.zbf.set _ _).length:Int)=_;rw [zy25];exact h.streams,fun u hu=>?_,fun j u hu=>?_,fun j u hu y hy h1 h2 h3=>?_,fun j u hu y hy hy2 h1 h2=>?_,?_⟩
  . obtain ⟨j,hj2⟩:=zy33 hu
    rcases zjy hk hj2 with ⟨-,rfl⟩ | ⟨-,hu⟩
    . omega
    . exact h.turn0 u (zy5 hu)
  . rcases zjy hk hu with ⟨rfl,rfl⟩ | ⟨-,hu⟩
    . exact .inr ⟨y0,y1,m1,m2,by omega⟩
    . exact h.zbf j u hu
  . rcases zjy hk hu with ⟨rfl,rfl⟩ | ⟨-,hu⟩
    . by_cases e:y.chunk.mid=t
      . left;rw [(hd.zdg y hy).2 ⟨h1,h2,e⟩];simp
      . exact (h.past j t hk y hy h1 h2 zz0).imp (zy67 _) (fun z=>z)
    . exact (h.past j u hu y hy h1 h2 h3).imp (zy67 _) (fun z=>z)
  . rcases zjy hk hu with ⟨rfl,rfl⟩ | ⟨hne,hu⟩
    . rcases zy10.1 hy2 with hy2 | hy2
      . have:=h.dturn j t hk y hy hy2 h1 h2;omega
      . rw [zy7] at hy2
        have:=((hd.zdg y hy).1 hy2).2.2;omega
    . rcases zy10.1 hy2 with hy2 | hy2
      . exact h.dturn j u hu y hy hy2 h1 h2
      . rw [zy7] at hy2
        have:=((hd.zdg y hy).1 hy2).1;omega
  . refine zy111.2 ⟨h.dord,by simp,fun a ha b' hb x hx y hy hxa hyb hc ho=>?_⟩
    rw [zy7] at hb;subst hb;obtain ⟨e1,e2,e3⟩:=(hd.zdg y hy).1 hyb;have e4:=h.dturn k t hk x hx (by rw [hxa];exact ha) (hc.1.trans e1) ho;rw [<- hxa,<- hyb];exact (hi.key x hx y hy hc).2 zz0
theorem zyi (hi:HI c L H) (hP:1<=c.part) (hs:H.length<=30500) (k:Nat):∀ (n:Nat) {D:List Nat} {r:Receiver},GR c L H A F D r->k<r.zbf.length->∃ D',GR c L H A F D' (zqz n r k)
 | 0,D,r,h,_=>⟨D,h⟩
 | n+1,D,r,h,hk=>by
  obtain ⟨t,ht⟩:∃ t,r.zbf[k]?=some t:=⟨_,zy2 hk⟩
  rw [zqz];rw [show r.zbf[k]?.getD 0=t by rw [ht];rfl];have hlen:=(zkl r k (tag t) true).1;by_cases hok:(dlv r k (tag t) true).2=true
  . rw [zy1 hok]
    obtain ⟨D',h'⟩:=xfe h hi hP hs ht hok;exact zyi hi hP hs k n h' (by show k<(List.set _ _ _).length;rw [zy25,hlen];exact hk)
  . rw [zy0 hok]
    have:(dlv r k (tag t) true).1=r:=by
     cases hj:join (r.pieces.filter (zdg k (tag t) true)) with
     | none=>rw [ztb r k (tag t) true hj]
     | some b=>rw [zvv r k (tag t) true hj] at hok;exact absurd rfl hok
    rw [this];exact ⟨D,h⟩
end
end Gh
namespace Gh
open Ser Srt Jn Rcv
theorem xkv:∀ {l:List Span} {n m:Int} (_:Ser.zfu l),(m<=(up l n).1\/has (up l n).2 m=true)->m<=n\/has l m=true
 | [],n,m,_,h=>by simpa [up] using h
 | s::r,n,m,h,hm=>by
  rw [up] at hm;split at hm
  . rename_i c1
    rcases xkv h.2.2.2.2 hm with h1 | h1
    . rw [zlj]
      split at h1
      . by_cases c2:m<=n
        . exact .inl c2
        . right
          rw [zy74];left;simp only [zy14,zy41];omega
      . exact .inl h1
    . right;rw [zlj,h1,Bool.or_true]
  . exact hm
theorem xgm {l:List Span} {n m:Int} (h:Ser.zfu l) (hm:m<=n\/has l m=true):m<=(up l n).1\/has (up l n).2 m=true:=by
 rcases hm with hm | hm
 . have:=(znc (n:=n) h).1;exact .inl zz0
 . exact xnu h hm
section
variable {c:Config} {L:List Message} {H:List Prt} {A F:Nat->Prop} {D:List Nat} {r:Receiver}
theorem xni (h:GR c L H A F D r) (hs:H.length<=30500) {ch:Chunk} {i:Nat} {y:Prt} (hi:HI c L H) (hc0:0<=c.first/\c.first<65536) (hy:H[i]?=some y) (hch:ch=y.chunk) (hd:ch.data≠[]) (ht:ybj r ch (zcw r.cum ch.tag)) :
 GR c L H (fun j=>A j\/j=i) F D (put r ch):=by
 obtain ⟨t1,t2,t3,t4,t5⟩:=hi.tag i y hy;have hil:=zci hy;have hlo:=h.lo;have hhi:=h.hi;have htag:tag (c.first+i)=tag ch.tag:=by rw [hch,t2];unfold tag;omega
 have hnear:zcw r.cum ch.tag=c.first+i:=zhd zz0 zz0 zz0 zz0 htag;have q1:=ht.zew;have q2:=ht.fresh;rw [hnear] at q1 q2;have hnA:¬ A i:=fun hA=>by
  rcases (h.acc i hA).2 with h1 | h1
  . omega
  . rw [q2] at h1;cases h1
 obtain ⟨ar,ah⟩:=ybm h.zfu (n:=c.first+i) zz0 zz0;obtain ⟨u1,u2,u3,u4,u5,u6⟩:=znc (n:=r.cum) ar;have hhas:∀ m:Int,(m<=(up (add r.zaq (c.first+i)) r.cum).1\/has (up (add r.zaq (c.first+i)) r.cum).2 m=true)↔(m<=r.cum\/has r.zaq m=true\/m=c.first+i):=by
  intro m
  constructor
  . intro hm
    rcases xkv ar hm with h1 | h1
    . exact .inl h1
    . rw [ah,zy74,zy41] at h1
      exact .inr h1
  . intro hm
    refine xgm ar ?_;rw [ah,zy74,zy41];exact hm
 have hsp:∀ s∈add r.zaq (c.first+i),s.hi<c.first+H.length:=by
  have:=yuo (n:=c.first+i) (M:=c.first+H.length-1) h.zfu zz0 zz0 (fun s hs=>by have:=h.spanh s hs;omega) zz0;intro s hs;have:=this s hs;omega
 have hcov:∀ (j:Nat) z,H[j]?=some z->(c.first+j<=r.cum\/has r.zaq (c.first+j)=true\/(c.first+(j:Int))=c.first+i)->(A j\/j=i)\/F z.id:=by
  intro j z hz hj;rcases hj with h1 | h1 | h1
  . exact (h.cum j z hz h1).imp .inl (fun z=>z)
  . exact .inl (.inl (h.span j h1))
  . exact .inl (.inr zz0)
 unfold Rcv.put;rw [hnear];refine ⟨by dsimp only;omega,?_,u3,u5,fun s hs=>hsp s (u4 s hs),fun j hj=>?_,fun j z hz hle=>hcov j z hz ((hhas _).1 (.inl hle)),fun j hj=>?_,fun p hp=>?_,?_,fun j z hz hj=>?_,h.logl,h.log,h.once,fun id hid=>⟨(h.dall id hid).1,fun j z hz he hd2=>.inl ((h.dall id hid).2 j z hz he hd2)⟩,h.streams,h.turn0,h.zbf,h.past,h.dturn,h.dord⟩
 . dsimp only
   rcases u6 with u6 | ⟨s,hs,u6⟩
   . omega
   . have:=hsp s hs;omega
 . rcases (hhas _).1 (.inr hj) with h1 | h1 | h1
   . exfalso
     obtain ⟨s,s1,s2,s3⟩:=zmm.1 hj;have:=u5 s s1;omega
   . exact .inl (h.span j h1)
   . exact .inr zz0
 . rcases hj with hj | rfl
   . obtain ⟨k1,k2⟩:=h.acc j hj
     exact ⟨k1,(hhas _).2 (k2.imp (fun z=>z) .inl)⟩
   . exact ⟨hil,(hhas _).2 (.inr (.inr rfl))⟩
 . rcases zy10.1 hp with hp | hp
   . obtain ⟨j,z,k1,k2,k3,k4,k5,k6⟩:=h.pieces p hp
     exact ⟨j,z,k1,k2,k3,k4,.inl k5,k6⟩
   . rw [zy7] at hp;subst hp
     refine ⟨i,y,hy,rfl,hch,by rw [<- hch];exact hd,.inr rfl,fun hin=>hnA ((h.dall y.id hin).2 i y hy rfl (by rw [<- hch];exact hd))⟩
 . refine zy111.2 ⟨h.apart,by simp,fun p hp q hq=>?_⟩
   rw [zy7] at hq;subst hq;obtain ⟨j,z,k1,k2,k3,k4,k5,k6⟩:=h.pieces p hp;intro e;have e:p.number=c.first+i:=e;have:j=i:=by omega
   subst this;exact hnA k5
 . rcases hj with hj | rfl
   . rcases h.kept j z hz hj with ⟨p,p1,p2⟩ | h1
     . exact .inl ⟨p,zy67 _ p1,p2⟩
     . exact .inr h1
   . exact .inl ⟨⟨c.first+j,ch⟩,by simp,rfl⟩
theorem xhl (h:GR c L H A F D r) (hs:H.length<=30500) {ch:Chunk} (hi:HI c L H) (hc0:0<=c.first/\c.first<65536) (hP:1<=c.part) (hok:zuz H ch):∃ A' D',GR c L H A' F D' (data r ch)/\∀ i,A i->A' i:=by
 unfold data;split
 . rename_i ht
   obtain ⟨i,y,h1,h2,h3⟩:=hok;have hp:=xni h hs hi hc0 h1 h2 h3 ht;have hst:=ht.high;have hst0:=ht.low;split
   . obtain ⟨D',g⟩:=zyi (D:=D) hi hP hs ch.stream.toNat ((put r ch).pieces.length+1) hp (by show ch.stream.toNat<r.zbf.length;omega)
     exact ⟨_,D',g,fun _=>.inl⟩
   . obtain ⟨D',g⟩:=xmf hp hi hP ch.stream ch.mid
     exact ⟨_,D',g,fun _=>.inl⟩
 . exact ⟨A,D,h,fun _ h=>h⟩
def xll (c:Config) (L:List Message) (H:List Prt) (F:Nat->Prop):Prop:=∀ x∈H,∀ y∈H,Cls x.chunk y.chunk->x.id<y.id->F x.id\/Whole c L H x.id
theorem yvd (h:GR c L H A F D r) {s m:Int} {o:Bool} (hg:∀ y∈H,y.chunk.stream=s->y.chunk.ordered=o->y.chunk.mid=m->y.id∈D\/F y.id):GR c L H A F D (zma r s m o):=by
 refine ⟨h.lo,h.hi,h.zfu,h.zew,h.spanh,h.span,h.cum,h.acc,fun p hp=>h.pieces p (zy54.1 hp).1,h.apart.filter _,fun i y hy hA=>?_,h.logl,h.log,h.once,h.dall,h.streams,h.turn0,h.zbf,h.past,h.dturn,h.dord⟩;rcases h.kept i y hy hA with ⟨p,p1,p2⟩ | h1
 . by_cases hm:zdg s m o p=true
   . obtain ⟨i',y',z1,z2,z3,z4,z5,z6⟩:=h.pieces p p1
     have:i'=i:=by omega
     subst this;rw [hy] at z1;cases z1;obtain ⟨e1,e2,e3⟩:=zjs.1 hm;rw [z3] at e1 e2 e3;exact .inr (hg y (zy5 hy) e1 e2 e3)
   . exact .inl ⟨p,zy54.2 ⟨p1,by simp at hm;simp [hm]⟩,p2⟩
 . exact .inr h1
theorem xjs (h:GR c L H A F D r) (hi:HI c L H) (hP:1<=c.part) (hs:H.length<=30500) (hsh:xll c L H F) {n:Int} (hcov:∀ (i:Nat) y,H[i]?=some y->c.first+i<=n->A i\/F y.id) {k:Nat} {t:Int} (hk:r.zbf[k]?=some t)
 {i0:Nat} {y0:Prt} (q1:H[i0]?=some y0) (q2:c.first+i0<=n) (q3:F y0.id) (q4:y0.chunk.stream=k) (q5:y0.chunk.ordered=true) (q6:t<=y0.chunk.mid):∃ D',GR c L H A F D' (pass r k):=by
 obtain ⟨t0,t1⟩:=h.turnB hi hk;have htag:tag t=t:=by unfold tag;omega
 have hy0:=zy5 q1;unfold pass;rw [show r.zbf[k]?.getD 0=t by rw [hk];rfl];cases hj:join (r.pieces.filter (zdg k (tag t) true)) with
 | some b =>
  have hok:(dlv r k (tag t) true).2=true:=by rw [zvv r k (tag t) true hj]
  rw [zy1 hok];exact xfe h hi hP hs hk hok
 | none =>
  rw [ztb r k (tag t) true hj];rw [zy0 (show ¬ (r,false).2=true from Bool.noConfusion)];dsimp only;rw [htag] at hj ⊢;have hg:∀ y∈H,y.chunk.stream=k->y.chunk.ordered=true->y.chunk.mid=t->y.id∈D\/F y.id:=by
   intro y hy e1 e2 e3;have hc:Cls y.chunk y0.chunk:=⟨e1.trans q4.symm,e2.trans q5.symm⟩
   by_cases e4:y.chunk.mid=y0.chunk.mid
   . right;rw [(hi.same hy hy0 hc).2 e4];exact q3
   have hlt:y.id<y0.id:=(hi.key y hy y0 hy0 hc).2 zz0;rcases hsh y hy y0 hy0 hc hlt with hF | hW
   . exact .inr hF
   apply Classical.byContradiction;intro hno;have hno:=not_or.1 hno;obtain ⟨w,w1,w2,w3,w4⟩:=hi.msg y hy
   -- all parts of it are pieces
   have hpc:∀ (i:Nat) z,H[i]?=some z->z.id=y.id->∃ p∈r.pieces.filter (zdg k t true),p.number=c.first+i/\p.chunk=z.chunk:=by
    intro i z hz hzi;have hzm:=zy5 hz;have hzc:=hi.cls hzm hy hzi;have hle:i<=i0:=by
     apply Classical.byContradiction;intro hgt;have:=hi.order i0 i y0 z zz0 q1 hz (hc.symm.trans hzc.symm);omega
    have hA:A i:=by
     rcases hcov i z hz zz0 with h1 | h1
     . exact h1
     . rw [hzi] at h1;exact absurd h1 hno.2
    rcases h.kept i z hz hA with ⟨p,p1,p2⟩ | h1 | h1
    . obtain ⟨i',z',k1,k2,k3,k4,k5,k6⟩:=h.pieces p p1
      have:i'=i:=by omega
      subst this;rw [hz] at k1;cases k1;refine ⟨p,zy54.2 ⟨p1,zjs.2 ?_⟩,p2,k3⟩;rw [k3];exact ⟨hzc.1.trans e1,hzc.2.trans e2,((hi.same hzm hy hzc).1 hzi).trans e3⟩
    . rw [hzi] at h1;exact absurd h1 hno.1
    . rw [hzi] at h1;exact absurd h1 hno.2
   have hmp:∀ p∈r.pieces.filter (zdg k t true),∃ (i:Nat) (z:Prt),H[i]?=some z/\p.number=c.first+i/\p.chunk=z.chunk/\z.id=y.id/\zst c.part w p.chunk:=by
    intro p hp;obtain ⟨g1,g2⟩:=zy54.1 hp;obtain ⟨i,z,k1,k2,k3,k4,k5,k6⟩:=h.pieces p g1;obtain ⟨f1,f2,f3⟩:=zjs.1 g2;rw [k3] at f1 f2 f3;have hzm:=zy5 k1;have hzc:Cls z.chunk y.chunk:=⟨f1.trans e1.symm,f2.trans e2.symm⟩
    have hzi:=(hi.same hzm hy hzc).2 (f3.trans e3.symm);obtain ⟨v,v1,-,-,v4⟩:=hi.msg z hzm;rw [hzi,w1] at v1;cases v1;exact ⟨i,z,k1,k2,k3,hzi,by rw [k3];exact v4 k4⟩
   have hne:w.data≠[]:=by
    intro e;obtain ⟨i,hii⟩:=zy33 hy;obtain ⟨p,p1,p2,p3⟩:=hpc i y hii rfl;obtain ⟨-,-,-,-,-,-,hpo⟩:=hmp p p1;have g1:=hpo.inn;have g2:=hpo.part0;have g3:0<=p.chunk.part*c.part:=zy141 g2 zz0;rw [e] at g1;simp at g1;omega
   obtain ⟨b,hb⟩:=ysk hP (fun p hp=>by obtain ⟨-,-,-,-,-,-,hpo⟩:=hmp p hp;exact hpo)
    ((
     h.apart.filter (zdg k t true)).imp_of_mem fun {p q} hp hq hpq e=>by
     obtain ⟨i,z,k1,k2,k3,k4,-⟩:=hmp p hp;obtain ⟨j,z',l1,l2,l3,l4,-⟩:=hmp q hq;have:=hi.at k1 l1 (k4.trans l4.symm) (by rw [<- k3,<- l3];exact e);omega) hne (fun j hjp=>by
     obtain ⟨z,z1,z2,z3,z4⟩:=hW w w1 j hjp;obtain ⟨i,hii⟩:=zy33 z1;obtain ⟨p,p1,p2,p3⟩:=hpc i z hii z2;exact ⟨p,p1,by rw [p3];exact z3⟩)
   rw [hj] at hb;cases hb
  have hd:=yvd h (s:=k) (m:=t) (o:=true) hg;refine ⟨D,hd.lo,hd.hi,hd.zfu,hd.zew,hd.spanh,hd.span,hd.cum,hd.acc,hd.pieces,hd.apart,hd.kept,hd.logl,hd.log,hd.once,hd.dall,by show ((r.zbf.set _ _).length:Int)=_;rw [zy25];exact h.streams,fun u hu=>?_,fun j u hu=>?_,fun j u hu y hy e1 e2 e3=>?_,fun j u hu y hy hy2 e1 e2=>?_,hd.dord⟩
  . obtain ⟨j,hj2⟩:=zy33 hu
    rcases zjy hk hj2 with ⟨-,rfl⟩ | ⟨-,hu⟩
    . omega
    . exact h.turn0 u (zy5 hu)
  . rcases zjy hk hu with ⟨rfl,rfl⟩ | ⟨-,hu⟩
    . exact .inr ⟨y0,hy0,q4,q5,by omega⟩
    . exact h.zbf j u hu
  . rcases zjy hk hu with ⟨rfl,rfl⟩ | ⟨-,hu⟩
    . by_cases e:y.chunk.mid=t
      . exact hg y hy e1 e2 e
      . exact h.past j t hk y hy e1 e2 zz0
    . exact h.past j u hu y hy e1 e2 e3
  . rcases zjy hk hu with ⟨rfl,rfl⟩ | ⟨-,hu⟩
    . have:=h.dturn j t hk y hy hy2 e1 e2;omega
    . exact h.dturn j u hu y hy hy2 e1 e2
theorem yia (hi:HI c L H) (hP:1<=c.part) (hs:H.length<=30500) (hsh:xll c L H F) {n:Int} (hcov:∀ (i:Nat) y,H[i]?=some y->c.first+i<=n->A i\/F y.id) {k:Nat}
 {i0:Nat} {y0:Prt} (q1:H[i0]?=some y0) (q2:c.first+i0<=n) (q3:F y0.id) (q4:y0.chunk.stream=k) (q5:y0.chunk.ordered=true):∀ (j:Nat) {D:List Nat} {r:Receiver} {t:Int},GR c L H A F D r->r.zbf[k]?=some t->t+j<=y0.chunk.mid+1->∃ D',GR c L H A F D' (zmu j r k)
 | 0,D,r,t,h,_,_=>⟨D,h⟩
 | j+1,D,r,t,h,hk,hle=>by
  rw [zmu];obtain ⟨D',h'⟩:=xjs h hi hP hs hsh hcov hk q1 q2 q3 q4 q5 (by push_cast at hle;omega);have ht:=(znq r k).1;exact yia hi hP hs hsh hcov q1 q2 q3 q4 q5 j (t:=t+1) h' (by rw [ht,hk,zy17 (zci hk)];rfl) (by push_cast at hle;omega)
theorem yam (k:Nat):∀ (j:Nat) (r:Receiver),(zmu j r k).zbf.length=r.zbf.length
 | 0,_=>rfl
 | j+1,r=>by rw [zmu,yam k j,(znq r k).1,zy25]
theorem xkh (h:GR c L H A F D r) (hi:HI c L H) (hP:1<=c.part) (hs:H.length<=30500) (hsh:xll c L H F) {n:Int} (hcov:∀ (i:Nat) y,H[i]?=some y->c.first+i<=n->A i\/F y.id) {sk:zgg}
 (hsk:∃ (i:Nat) (y:Prt),H[i]?=some y/\c.first+i<=n/\F y.id/\sk.stream=y.chunk.stream/\sk.ordered=y.chunk.ordered/\sk.mid=y.chunk.mid):∃ D',GR c L H A F D' (zkz r sk):=by
 obtain ⟨i0,y0,q1,q2,q3,q4,q5,q6⟩:=hsk;have hy0:=zy5 q1;have hmid:=hi.mid y0 hy0;unfold zkz;by_cases c1:sk.stream<0\/(r.zbf.length:Int)<=sk.stream
 . rw [zy1 c1];exact ⟨D,h⟩
 rw [zy0 c1];by_cases c2:sk.ordered=false
 . rw [zy1 c2]
   refine ⟨D,yvd h fun y hy e1 e2 e3=>.inr ?_⟩;rw [(hi.same hy hy0 ⟨e1.trans q4,e2.trans (c2.symm.trans q5)⟩).2 (e3.trans q6)];exact q3
 . rw [zy0 c2]
   have c3:sk.ordered=true:=by simpa using c2
   have hkl:sk.stream.toNat<r.zbf.length:=by omega
   obtain ⟨t,ht⟩:∃ t,r.zbf[sk.stream.toNat]?=some t:=⟨_,zy2 hkl⟩
   obtain ⟨t0,t1⟩:=h.turnB hi ht;have hnr:zcw t sk.mid=sk.mid:=zhd zz0 zz0 zz0 zz0 rfl;rw [show r.zbf[sk.stream.toNat]?.getD 0=t by rw [ht];rfl,hnr];unfold ybd;rw [show r.zbf[sk.stream.toNat]?.getD 0=t by rw [ht];rfl];obtain ⟨D',h'⟩:∃ D',GR c L H A F D' (zmu (sk.mid+1-t).toNat r sk.stream.toNat):=by
    by_cases c4:t<=sk.mid+1
    . exact yia hi hP hs hsh hcov q1 q2 q3 zz0 (by rw [<- q5];exact c3) _ h ht zz0
    . rw [show (sk.mid+1-t).toNat=0 by omega];exact ⟨D,h⟩
   exact zyi hi hP hs _ _ h' (by rw [yam];exact hkl)
theorem yqq (hi:HI c L H) (hP:1<=c.part) (hs:H.length<=30500) (hsh:xll c L H F) {n:Int} (hcov:∀ (i:Nat) y,H[i]?=some y->c.first+i<=n->A i\/F y.id):∀ (l:List zgg) {D:List Nat} {r:Receiver},GR c L H A F D r ->
 (∀ sk∈l,∃ (i:Nat) (y:Prt),H[i]?=some y/\c.first+i<=n/\F y.id/\sk.stream=y.chunk.stream/\sk.ordered=y.chunk.ordered/\sk.mid=y.chunk.mid)->∃ D',GR c L H A F D' (l.foldl zkz r)
 | [],D,_,h,_=>⟨D,h⟩
 | sk::l,D,r,h,hl=>by
  obtain ⟨D',h'⟩:=xkh h hi hP hs hsh hcov (hl sk zz3);exact yqq hi hP hs hsh hcov l h' fun x hx=>hl x zz28
theorem yrw (h:GR c L H A F D r) (hi:HI c L H) (hP:1<=c.part) (hs:H.length<=30500) (hc0:0<=c.first/\c.first<65536) (hsh:xll c L H F) {ch:Chunk} (hok:yrg c H A F ch):∃ D',GR c L H A F D' (forward r ch):=by
 obtain ⟨n,n1,n2,n3,n4,n5⟩:=hok;have hlo:=h.lo;have hhi:=h.hi;have hnear:zcw r.cum ch.tag=n:=zhd zz0 zz0 zz0 zz0 n3.symm;unfold forward;by_cases c1:¬ ch.kind=3\/zcw r.cum ch.tag<=r.cum
 . rw [zy1 c1];exact ⟨D,h⟩
 rw [zy0 c1,hnear];obtain ⟨u1,u2,u3,u4,u5,u6⟩:=znc (n:=n) h.zfu;have hg:GR c L H A F D {r with cum:=(up r.zaq n).1,zaq:=(up r.zaq n).2}:=by
  refine ⟨by dsimp only;omega,?_,u3,u5,fun s hs=>h.spanh s (u4 s hs),fun i hi2=>?_,fun i y hy hle=>?_,fun i hA=>⟨(h.acc i hA).1,xgm h.zfu ?_⟩,h.pieces,h.apart,h.kept,h.logl,h.log,h.once,h.dall,h.streams,h.turn0,h.zbf,h.past,h.dturn,h.dord⟩
  . dsimp only
    rcases u6 with u6 | ⟨s,hs,u6⟩
    . omega
    . have:=h.spanh s hs;omega
  . obtain ⟨s,s1,s2,s3⟩:=zmm.1 hi2
    exact h.span i (zmm.2 ⟨s,u4 s s1,s2,s3⟩)
  . rcases xkv h.zfu (.inl hle) with h1 | h1
    . exact n4 i y hy h1
    . exact .inl (h.span i h1)
  . have hne:=fun h2=>c1 (.inr h2)
    rcases (h.acc i hA).2 with h1 | h1
    . rw [hnear] at hne;left;omega
    . exact .inr h1
 exact yqq hi hP hs hsh n4 ch.zbv hg n5
theorem xep (h:GR c L H A F D r):zki c H A F (Chk.clean (zle r)):=by
 have e1:(Chk.clean (zle r)).tag=tag r.cum:=rfl;have e2:(Chk.clean (zle r)).zaq=(r.zaq.take 6).map (shift r.cum):=rfl;refine ⟨r.cum,h.lo,h.hi,by rw [e1];unfold tag;omega,h.cum,fun t ht=>?_,fun i hlt hh=>?_⟩
 . rw [e2] at ht
   obtain ⟨s,hs,rfl⟩:=zy23.1 ht;have:=h.spanh s (zy62 hs);show r.cum+(s.hi-r.cum)<_;omega
 . rw [e2] at hh
   obtain ⟨t,t1,t2,t3⟩:=zmm.1 hh;obtain ⟨s,hs,rfl⟩:=zy23.1 t1;have t2:s.lo-r.cum<=c.first+i-r.cum:=t2;have t3:c.first+i-r.cum<=s.hi-r.cum:=t3;exact h.span i (zmm.2 ⟨s,zy62 hs,by omega,by omega⟩)
theorem xmw {c:Config} (hc:1<=c.streams) (L:List Message) (F:Nat->Prop):GR c L [] (fun _=>False) F [] (yag c):=by
 refine ⟨by show c.first-1<=c.first-1;omega,by show c.first-1<c.first+((([]:List Prt).length:Nat):Int);simp;omega,trivial,by simp [yag],by simp [yag],fun i hi=>?_,by simp,fun i h=>h.elim,by simp [yag],by simp [yag],by simp,rfl,by simp,by simp,by simp,?_,fun t ht=>?_,fun k t hk=>?_,by simp,by simp,by simp⟩
 . simp [yag,has] at hi
 . show ((List.replicate _ _).length:Int)=_;rw [zy57];omega
 . have:t=0:=zy51 ht
   omega
 . exact .inl (zy51 (zy5 hk))
end
end Gh
namespace Gh
open Ser Snd Ln
def ybk (c:Config) (H:List Prt) (A F:Nat->Prop) (p:zba):Prop:=∀ ch∈(Pck.zfe p.bytes).1,if p.back=true then zki c H A F ch else zoo c H A F ch
structure GL (N M:Nat) (c:Config) (L:List Message) (H:List Prt) (A:Nat->Prop) (D:List Nat) (l:zdi):Prop where
 li:LI N M l
 ki:KI L l.sender
 gs:GS c L H A l.sender
 gr:GR c L H A (gF l.sender) D l.receiver
 way:∀ p∈l.way,ybk c H A (gF l.sender) p
section
variable {N M:Nat} {c:Config} {L:List Message} {H:List Prt} {A F:Nat->Prop} {D:List Nat} {l:zdi}
theorem ybk.more {E:List Prt} {B G:Nat->Prop} {p:zba} (h:ybk c H A F p) (hA:∀ i,A i->B i) (hF:∀ i,F i->G i):ybk c (H++E) B G p:=fun ch hc=>by
 have:=h ch hc;split at this
 . rename_i e;rw [zy1 e];exact zki.more this hA hF
 . rename_i e;rw [zy0 e];exact zoo.more this hA hF
theorem ybk.more0 {B G:Nat->Prop} {p:zba} (h:ybk c H A F p) (hA:∀ i,A i->B i) (hF:∀ i,F i->G i):ybk c H B G p:=by
 have:=h.more (E:=[]) hA hF
 rwa [zy9] at this
theorem zki.more0 {B G:Nat->Prop} {ch:Chunk} (h:zki c H A F ch) (hA:∀ i,A i->B i) (hF:∀ i,F i->G i):zki c H B G ch:=by
 have:=h.more (E:=[]) hA hF
 rwa [zy9] at this
theorem zoo.more0 {B G:Nat->Prop} {ch:Chunk} (h:zoo c H A F ch) (hA:∀ i,A i->B i) (hF:∀ i,F i->G i):zoo c H B G ch:=by
 have:=h.more (E:=[]) hA hF
 rwa [zy9] at this
theorem GS.shut {s:zab} (h:GS c L H A s) (hk:KI L s):xll c L H (gF s):=by
 intro x hx y hy hc hlt;by_cases hg:gF s x.id
 . exact .inl hg
 right
 obtain ⟨w,w1,w2,w3,-⟩:=h.hi.msg x hx;rcases h.whole x.id (zci w1) hg with ⟨m,m1,m2⟩ | h1
 . exfalso
   have hm:=hk.queue m m1;rw [show m.id.toNat=x.id by omega,w1] at hm;cases hm;rcases zy140 m.mid 0 with hn | hn
   . have:=(h.fresh m m1 hn).2 x hx ⟨w2,w3⟩
     omega
   . have:=(h.begun m m1 hn).top y hy ⟨hc.1.symm.trans w2,hc.2.symm.trans w3⟩
     omega
 . exact h1
theorem yzj {s:zab} (h:KI L s):KI L (Snd.settle s):=by
 refine ⟨by show (List.mapIdx _ _).length=_;rw [zy77];exact h.len,h.queue,h.out,fun k hk=>h.gone k ?_⟩;have hk:(s.fates.mapIdx fun id f=>settled s id f)[k]?=some 3:=hk;rw [zy47] at hk;cases hz:s.fates[k]? with
 | none=>rw [hz] at hk;cases hk
 | some f =>
  rw [hz] at hk;have hk:settled s k f=3:=by simpa using hk
  unfold settled at hk;split at hk
  . cases hk
  . rw [hk]
theorem xim {s:zab} (h:KI L s) (ch:Chunk):KI L (zjo s ch):=by
 unfold zjo;split
 . exact h
 split
 . exact h
 rename_i c1 c2;rw [zil];have e1:(Sco.zex s.out s.cum ch s.paths.length).1=(Sco.left ch (zcw s.cum ch.tag) s.out).map (Sco.age (Sco.zgi ch (zcw s.cum ch.tag) s.out)):=by rw [Sco.zex,zy0 c2]
 have hT:KI L (zfd s ch (Sco.zex s.out s.cum ch s.paths.length)):=by
  refine h.side rfl (fun m hm=>⟨m,hm,rfl,rfl⟩) fun x hx=>?_
  have hx:x∈(Sco.zex s.out s.cum ch s.paths.length).1:=hx;rw [e1] at hx;obtain ⟨y,hy,rfl⟩:=zy23.1 hx;obtain ⟨z,hz,rfl⟩:=zy23.1 hy;refine ⟨z,(zy54.1 hz).1,?_⟩;have a1:∀ (k:Int) (y:zbr),(Sco.age k y).id=y.id/\(Sco.age k y).life=y.life/\(Sco.age k y).tries=y.tries:=fun k y=>by unfold Sco.age;(repeat' split)<;>exact ⟨rfl,rfl,rfl⟩
  have a2:(Sco.zbf ch (zcw s.cum ch.tag) z).id=z.id/\(Sco.zbf ch (zcw s.cum ch.tag) z).life=z.life/\(Sco.zbf ch (zcw s.cum ch.tag) z).tries=z.tries:=by unfold Sco.zbf;split<;>exact ⟨rfl,rfl,rfl⟩
  obtain ⟨b1,b2,b3⟩:=a1 (Sco.zgi ch (zcw s.cum ch.tag) s.out) (Sco.zbf ch (zcw s.cum ch.tag) z);exact ⟨(b1.trans a2.1).symm,(b2.trans a2.2.1).symm,(b3.trans a2.2.2).symm⟩
 generalize zfd s ch (Sco.zex s.out s.cum ch s.paths.length)=t at hT;have hU:∀ p l,KI L (zge p t l):=fun p l=>by
  unfold zge;split
  . exact hT
  . split
    . exact hT.side rfl (fun m hm=>⟨m,hm,rfl,rfl⟩) fun x hx=>⟨x,hx,rfl,rfl,rfl⟩
    . exact hT
 refine yzj ?_;unfold zej;split
 . exact (hU _ _).side rfl (fun m hm=>⟨m,hm,rfl,rfl⟩) fun x hx=>⟨x,hx,rfl,rfl,rfl⟩
 . exact hU _ _
theorem xcc {back:Bool} {x:zdi×Bool} {ch:Chunk} (h:GL N M c L H A D x.1) (hN:N<=500) (hM:M+Rcv.wt ch<=2000000) (hok:if back=true then zki c H A (gF x.1.sender) ch else zoo c H A (gF x.1.sender) ch) :
 ∃ A' D',GL N (M+Rcv.wt ch) c L H A' D' (zgz back x ch).1/\(∀ i,A i->A' i)/\∀ k,gF x.1.sender k->gF (zgz back x ch).1.sender k:=by
 have hli:=ycp (back:=back) (c:=ch) h.li hM;have hw:=zca h.li.snd.cfg;rw [h.gs.cfg] at hw;have hcap:=h.gs.few h.li.snd;unfold zgz at hli ⊢;by_cases cb:back=true
 . rw [zy1 cb] at hok hli ⊢
   obtain ⟨g1,g2⟩:=xil h.gs h.li.snd hN hok;exact ⟨A,D,⟨hli,xim h.ki ch,g1,h.gr.goneMore g2,fun p hp=>(h.way p hp).more0 (fun _ h=>h) g2⟩,fun _ h=>h,g2⟩
 rw [zy0 cb] at hok hli ⊢;by_cases c1:ch.kind=1
 . rw [zy1 c1] at hli ⊢
   have hd:zuz H ch:=by
    rcases hok with hd | ⟨hd,-⟩
    . exact hd
    . rw [c1] at hd;cases hd
   obtain ⟨A',D',g1,g2⟩:=xhl h.gr zz0 h.gs.hi zz0 zz0 hd;exact ⟨A',D',⟨hli,h.ki,h.gs.more g2,g1,fun p hp=>(h.way p hp).more0 g2 (fun _ h=>h)⟩,g2,fun _ h=>h⟩
 rw [zy0 c1] at hli ⊢;by_cases c3:ch.kind=3
 . rw [zy1 c3] at hli ⊢
   have hd:yrg c H A (gF x.1.sender) ch:=by
    rcases hok with ⟨i,y,h1,h2,-⟩ | ⟨-,hd⟩
    . exact absurd (h2 ▸ (h.gs.hi.tag i y h1).1) c1
    . exact hd
   obtain ⟨D',g1⟩:=yrw h.gr h.gs.hi zz0 zz0 zz0 (h.gs.shut h.ki) hd;exact ⟨A,D',⟨hli,h.ki,h.gs,g1,h.way⟩,fun _ h=>h,fun _ h=>h⟩
 rw [zy0 c3] at hli ⊢;exact ⟨A,D,⟨hli,h.ki,h.gs,h.gr,h.way⟩,fun _ h=>h,fun _ h=>h⟩
theorem yol {back:Bool} (hN:N<=500):∀ (cs:List Chunk) {M:Nat} {A:Nat->Prop} {D:List Nat} {x:zdi×Bool},GL N M c L H A D x.1->M+Rcv.wts cs<=2000000->(∀ ch∈cs,if back=true then zki c H A (gF x.1.sender) ch else zoo c H A (gF x.1.sender) ch) ->
 ∃ A' D',GL N (M+Rcv.wts cs) c L H A' D' (cs.foldl (zgz back) x).1
 | [],M,A,D,x,h,_,_=>⟨A,D,h⟩
 | ch::cs,M,A,D,x,h,hM,hok=>by
  rw [Rcv.zoc] at hM ⊢;obtain ⟨A',D',g1,g2,g3⟩:=xcc (back:=back) h hN zz0 (hok ch zz3);have:=yol (back:=back) hN cs g1 zz0 fun z hz=>by
   have:=hok z (by simp [hz]);split at this
   . rename_i e;rw [zy1 e];exact zki.more0 this g2 g3
   . rename_i e;rw [zy0 e];exact zoo.more0 this g2 g3
  rw [<- zy104];exact this
theorem GL.more (h:GL N M c L H A D l) {M':Nat} (h1:M<=M') (h2:M'<=2000000):GL N M' c L H A D l:=⟨h.li.more h1 h2,h.ki,h.gs,h.gr,h.way⟩
theorem GL.put (h:GL N M c L H A D l) {ps:List zba} (hp:∀ p∈ps,p.bytes.length<=120) (hw:∀ p∈ps,ybk c H A (gF l.sender) p):GL N M c L H A D {l with way:=zrd l.way ps} :=
 ⟨yig h.li hp,h.ki,h.gs,h.gr,fun p hq=>by rcases ydq ps _ p hq with hq | hq;exact h.way p hq;exact hw p hq⟩
theorem xkp (h:GL N M c L H A D l) (path:Int):GL N M c L H A D (told path l):=by
 unfold told;split
 . rename_i c1
   refine h.put (fun p hp=>?_) fun p hp ch hc=>?_
   . rw [zy7] at hp;subst hp
     have:=zsf [Rcv.zle l.receiver] 120 zz5;dsimp only;omega
   . rw [zy7] at hp;subst hp
     rw [zy1 rfl];obtain ⟨d,hd,rfl⟩:=yie c1 ch hc;rw [zy7] at hd;subst hd;exact xep h.gr
 . exact h
theorem xhh (h:GL N M c L H A D l) (hN:N<=500) {p:zba} (hp:p.bytes.length<=120) (hw:ybk c H A (gF l.sender) p) (hM:M+120<=2000000):∃ A' D',GL N (M+120) c L H A' D' (zfm l p):=by
 have hwt:=(zxi p.bytes).1;obtain ⟨A',D',g⟩:=yol (back:=p.back) hN (Pck.zfe p.bytes).1 (x:=(l,false)) h zz0 hw;have g2:GL N (M+120) c L H A' D' (zik l p).1:=g.more zz0 hM;unfold zfm;split
 . exact ⟨A,D,h.more zz0 hM⟩
 split
 . exact ⟨A',D',xkp g2 _⟩
 . exact ⟨A',D',g2⟩
theorem zvx (h:GL N M c L H A D l) (hN:N<=500):∃ E,GL N M c L (H++E) A D (emit l):=by
 obtain ⟨E,g1,g2,g3⟩:=xjt h.gs h.li.snd hN h.ki;have hli:=zvy h.li;refine ⟨E,hli,xju h.ki h.li.snd,g1,(h.gr.goneMore g2).ext g1.hi,fun p hp=>?_⟩;rcases ydq _ _ p hp with hp | hp
 . exact (h.way p hp).more (fun _ h=>h) g2
 . obtain ⟨b1,b2⟩:=g3 p hp
   intro ch hc;rw [b1,zy0 (by decide)];exact b2 ch hc
theorem GL.nmore (h:GL N M c L H A D l) {N':Nat} (h1:N<=N') (h2:N'<=2 ^ 20):GL N' M c L H A D l:=⟨⟨h.li.snd.mono h1 h2,h.li.rcv,h.li.small,h.li.way,h.li.bytes⟩,h.ki,h.gs,h.gr,h.way⟩
def xkr (x:Step) (a:Answer):List Message:=if x.kind=1/\a.err=0 then [x.message] else []
theorem xmg (h:GL N M c L H A D l) (x:Step) (hN:N+1<=500) (hM:M+120<=2000000):∃ E A' D',GL (N+1) (M+120) c (L++xkr x (doS l x).2) (H++E) A' D' (doS l x).1:=by
 have h0:GL (N+1) (M+120) c L H A D l:=(h.nmore zz0 zz0).more zz0 hM;have same:∀ a:Answer,xkr x a=[]->∃ E A' D',GL (N+1) (M+120) c (L++xkr x a) (H++E) A' D' l:=fun a e=>⟨[],A,D,by rw [e,zy9,zy9];exact h0⟩
 unfold doS;by_cases c1:x.kind=1
 . rw [zy1 c1]
   by_cases c2:zeu l.sender x.message=0
   . rw [zy1 c2]
     obtain ⟨g1,g2⟩:=xkd h.gs h.li.snd h.ki x.message;have hs:GL (N+1) (M+120) c (L++[x.message]) H A D {l with sender:=zgb l.sender x.message} :=
      ⟨⟨zxp h.li.snd c2 zz0,h0.li.rcv,hM,h.li.way,h.li.bytes⟩,xke h.ki h.li.snd x.message,g1,(h.gr.lMore x.message).goneMore g2,fun p hp=>(h.way p hp).more0 (fun _ h=>h) g2⟩
     obtain ⟨E,g⟩:=zvx hs zz0;refine ⟨E,A,D,?_⟩;rw [show xkr x ⟨0,(l.sender.fates.length:Int)⟩=[x.message] from zy1 ⟨c1,rfl⟩];exact g
   . rw [zy0 c2]
     exact same _ (zy0 fun h=>c2 h.2)
 rw [zy0 c1];have nt:∀ a:Answer,xkr x a=[]:=fun a=>zy0 fun h=>c1 h.1
 have fin:∀ {A':Nat->Prop} {D':List Nat} {y:zdi} {a:Answer},(∃ E,GL (N+1) (M+120) c L (H++E) A' D' y)->∃ E A' D',GL (N+1) (M+120) c (L++xkr x a) (H++E) A' D' y:=by
  rintro A' D' y a ⟨E,g⟩;exact ⟨E,A',D',by rw [nt a,zy9];exact g⟩
 by_cases c2:x.kind=2\/x.kind=3\/x.kind=4
 . rw [zy1 c2]
   by_cases c3:x.n<0
   . rw [zy1 c3];exact same _ (nt _)
   rw [zy0 c3];cases hp:l.way[x.n.toNat]? with
   | none=>exact same _ (nt _)
   | some p =>
    dsimp only;have hpm:=zy5 hp;have hb:=h.li.bytes p hpm;have hw:=h.way p hpm;by_cases c4:x.kind=4
    . rw [zy1 c4]
      exact fin (zvx (h0.put (fun q hq=>by rw [zy7] at hq;subst hq;exact hb) fun q hq=>by rw [zy7] at hq;subst hq;exact hw) zz0)
    rw [zy0 c4];have he:GL (N+1) M c L H A D {l with way:=l.way.eraseIdx x.n.toNat}:=by
     have h1:=h.nmore (N':=N+1) zz0 zz0;exact ⟨⟨h1.li.snd,h1.li.rcv,h1.li.small,by show (l.way.eraseIdx _).length<=40;have:=h.li.way;rw [zy105];split<;>omega,fun q hq=>h.li.bytes q (zy65 hq)⟩,h1.ki,h1.gs,h1.gr,fun q hq=>h.way q (zy65 hq)⟩
    by_cases c5:x.kind=2
    . rw [zy1 c5]
      obtain ⟨A',D',g⟩:=xhh he zz0 hb hw hM;exact fin (zvx g zz0)
    . rw [zy0 c5]
      exact fin (zvx (he.more zz0 hM) zz0)
 rw [zy0 c2];by_cases c5:x.kind=5
 . rw [zy1 c5]
   obtain ⟨g1,g2⟩:=xkm h.gs;have g3:∀ k,gF l.sender k↔gF (tick l.sender) k:=fun k=>by unfold gF;rw [g2]
   have ht:GL (N+1) (M+120) c L H A D {l with sender:=tick l.sender} :=
    ⟨⟨zyg h0.li.snd,h0.li.rcv,hM,h.li.way,h.li.bytes⟩,xkn h.ki,g1,h.gr.goneMore fun k=>(g3 k).1,fun p hp=>(h.way p hp).more0 (fun _ h=>h) fun k=>(g3 k).1⟩
   exact fin (zvx ht zz0)
 . rw [zy0 c5];exact same _ (nt _)
def xns:List Step->List Answer->List Message
 | x::l,a::b=>xkr x a++xns l b
 | _,_=>[]
theorem yqb:∀ (a:List Step) {N M:Nat} {L:List Message} {H:List Prt} {A:Nat->Prop} {D:List Nat} {l:zdi},GL N M c L H A D l->N+a.length<=500->M+120*a.length<=2000000->∃ H' A' D',GL (N+a.length) (M+120*a.length) c (L++xns a (zfq l a).2) H' A' D' (zfq l a).1
 | [],N,M,L,H,A,D,l,h,_,_=>⟨H,A,D,by show GL N M c (L++[]) H A D l;rw [zy9];exact h⟩
 | x::a,N,M,L,H,A,D,l,h,h1,h2=>by
  simp only [zy8] at h1 h2 ⊢;obtain ⟨E,A',D',g⟩:=xmg h x zz0 zz0;obtain ⟨H2,A2,D2,g2⟩:=yqb a g zz0 zz0;refine ⟨H2,A2,D2,?_⟩;rw [show N+(a.length+1)=N+1+a.length by omega,show M+120*(a.length+1)=M+120+120*a.length by omega];rw [zy24] at g2;exact g2
theorem xjb {c:Config} (hw:zob c=0):GL 0 0 c [] [] (fun _=>False) [] (zic c) :=
 ⟨ydd hw,⟨rfl,by simp [zic,zrx],by simp [zic,zrx],by simp [zic,zrx]⟩,xmx hw _,xmw (by have:=zca hw;omega) _ _,by simp [zic]⟩
end
end Gh
namespace Tp
open Ser Srt Jn Rcv
structure CH where
 stream:Nat
 mid:Nat
 part:Nat
 last:Bool
 data:List UInt8
def CH.mk' (f:Int) (i:Nat) (x:CH):Chunk:=⟨1,tag (f+i),x.stream,x.mid,x.part,x.last,true,x.data,[],0,[]⟩
theorem xgk {α:Type} {key:α->Int}:∀ {l:List α},Sd key l->srt key l=l
 | [],_=>rfl
 | [x],_=>rfl
 | x::y::r,h=>by
  rw [srt,xgk h.2,ins,zy1 (h.1 y (by simp))]
theorem znm {n:Nat}:∀ {l:List zav} {i:Nat},(∀ (k:Nat) p,l[k]?=some p->p.chunk.part=((i+k:Nat):Int)/\p.chunk.last=decide (i+k+1=n))->zji n i l=some ((l.map fun p=>p.chunk.data).flatten)
 | [],_,_=>rfl
 | p::r,i,h=>by
  have h0:=h 0 p rfl;have ih:=znm (n:=n) (l:=r) (i:=i+1) fun k q hq=>by
   have:=h (k+1) q (by simpa using hq);rw [show i+1+k=i+(k+1) by omega];exact this
  rw [zji,zy1 ⟨by simpa using h0.1,by simpa using h0.2⟩,ih];rfl
theorem yzh:∀ {l:List zav} {i:Nat},(∀ (k:Nat) p,l[k]?=some p->p.chunk.part=((i+k:Nat):Int))->Sd ck l
 | [],_,_=>trivial
 | p::r,i,h=>by
  refine ⟨fun q hq=>?_,yzh (i:=i+1) fun k q hq=>?_⟩
  . obtain ⟨k,hk⟩:=zy33 hq
    have h1:=h 0 p rfl;have h2:=h (k+1) q (by simpa using hk);show p.chunk.part<=q.chunk.part;omega
  . have:=h (k+1) q (by simpa using hq)
    rw [show i+1+k=i+(k+1) by omega];exact this
theorem yxe {l:List zav} (hl:l≠[]) (h:∀ (k:Nat) p,l[k]?=some p->p.chunk.part=(k:Int)/\p.chunk.last=decide (k+1=l.length)):join l=some ((l.map fun p=>p.chunk.data).flatten):=by
 have hs:srt ck l=l:=xgk (yzh (i:=0) fun k p hk=>by rw [zy58];exact (h k p hk).1);rw [join,zy0 hl,hs];exact znm fun k p hk=>by rw [zy58];exact h k p hk
theorem yxd {l:List zav} (h:∀ p∈l,p.chunk.last=false):join l=none:=by
 cases hj:join l with
 | none=>rfl
 | some b =>
  have hl:=zuq hj;obtain ⟨p,hp,-,e⟩:=Gh.znn hj (l.length-1) zz0;rw [h p hp,zy12 (by omega)] at e;cases e
structure RI (S:Nat) (T:Nat->Nat) (U:Nat->List (List UInt8)) (lg:List zcr) (r:Receiver):Prop where
 zbf:r.zbf=(List.range S).map fun k=>(T k:Int)
 small:∀ k,T k<=1000
 zaq:r.zaq=[]
 log:r.log=lg
 zdg:∀ p∈r.pieces,∃ k,k<S/\p.chunk.stream=(k:Int)/\p.chunk.mid=(T k:Int)/\p.chunk.ordered=true/\p.chunk.last=false
 cur:∀ k,k<S->(r.pieces.filter (Rcv.zdg k (T k) true)).map (fun p=>(p.chunk.part,p.chunk.data))=(U k).mapIdx fun i d=>((i:Int),d)
def at1 {α:Type} (F:Nat->α) (k:Nat) (x:α):Nat->α:=fun j=>if j=k then x else F j
theorem add_nil (n:Int):add [] n=[⟨n,n⟩]:=rfl
theorem xnv (n:Int):up [⟨n+1,n+1⟩] n=(n+1,[]):=by
 rw [up,zy1 (by show n+1<=n+1;omega),up];show ((if n+1>n then n+1 else n),([]:List Span))=_;rw [zy1 (by omega)]
section
variable {S:Nat} {T:Nat->Nat} {U:Nat->List (List UInt8)} {lg:List zcr} {r:Receiver}
theorem RI.len (h:RI S T U lg r):r.zbf.length=S:=by rw [h.zbf,zy3,List.length_range]
theorem RI.at (h:RI S T U lg r) {k:Nat} (hk:k<S):r.zbf[k]?.getD 0=(T k:Int):=by
 rw [h.zbf,zy13,zy98 hk];rfl
theorem xal {n:Nat} (h:n<=1000):tag (n:Int)=n:=by unfold tag;omega
theorem xbn (r:Receiver) (c:Chunk) (h:zcw r.cum c.tag<=r.cum):data r c=r:=by
 unfold data;rw [zy0 fun t=>by have:=t.zew;omega]
theorem yvc (h:RI S T U lg r) {c:Chunk} {k:Nat} (hk:k<S) (h1:c.kind=1) (h2:c.stream=(k:Int)) (h3:c.mid=(T k:Int)) (h4:c.part=((U k).length:Int)) (h5:c.ordered=true) (hn:zcw r.cum c.tag=r.cum+1) (hT:T k<1000) :
 (data r c).cum=r.cum+1/\(data r c).config=r.config /\
 (if c.last=true then RI S (at1 T k (T k+1)) (at1 U k []) (lg++[⟨k,T k,true,(U k++[c.data]).flatten⟩]) (data r c) else RI S T (at1 U k (U k++[c.data])) lg (data r c)):=by
 have hlen:=h.len;have hat:=h.at hk;have htk:ybj r c (zcw r.cum c.tag):=by
  rw [hn];exact ⟨h1,by omega,by rw [hlen];omega,by omega,by rw [h.zaq];rfl,.inl rfl⟩
 have xfn:put r c={r with pieces:=r.pieces++[⟨r.cum+1,c⟩],cum:=r.cum+1,zaq:=[]}:=by
  unfold put;rw [hn,h.zaq,add_nil,xnv]
 have hks:c.stream.toNat=k:=by omega
 have hd:data r c=turns {r with pieces:=r.pieces++[⟨r.cum+1,c⟩],cum:=r.cum+1,zaq:=[]} k:=by
  unfold data;rw [zy1 htk,zy1 h5,xfn,hks]
 have hm:Rcv.zdg k (T k) true ⟨r.cum+1,c⟩=true:=by unfold Rcv.zdg;simp [h2,h3,h5]
 have hf:(r.pieces++[(⟨r.cum+1,c⟩:zav)]).filter (Rcv.zdg k (T k) true)=r.pieces.filter (Rcv.zdg k (T k) true)++[⟨r.cum+1,c⟩]:=by
  rw [zy59,zy162 hm];rfl
 have hother:∀ j,j≠k->(r.pieces++[(⟨r.cum+1,c⟩:zav)]).filter (Rcv.zdg j (T j) true)=r.pieces.filter (Rcv.zdg j (T j) true):=by
  intro j hj;rw [zy59,zy130 (by unfold Rcv.zdg;simp [h2];omega)];simp
 have hl:(r.pieces.filter (Rcv.zdg k (T k) true)).length=(U k).length:=by
  have:=congrArg List.length (h.cur k hk)
  rwa [zy3,zy77] at this
 have hopen:∀ p∈r.pieces.filter (Rcv.zdg k (T k) true),p.chunk.last=false:=fun p hp=>by obtain ⟨j,-,-,-,-,e⟩:=h.zdg p (zy54.1 hp).1;exact e
 have htt:tag ((r.zbf[k]?.getD 0))=(T k:Int):=by rw [hat];exact xal (h.small k)
 cases hc:c.last with
 | false =>
  rw [zy0 (by decide)];have hj:join ((r.pieces++[(⟨r.cum+1,c⟩:zav)]).filter (Rcv.zdg k (T k) true))=none:=by
   rw [hf];refine yxd fun p hp=>?_
   rcases zy10.1 hp with hp | hp
   . exact hopen p hp
   . rw [zy7] at hp;subst hp;exact hc
  have hdl:dlv {r with pieces:=r.pieces++[⟨r.cum+1,c⟩],cum:=r.cum+1,zaq:=[]} k (tag (r.zbf[k]?.getD 0)) true=({r with pieces:=r.pieces++[⟨r.cum+1,c⟩],cum:=r.cum+1,zaq:=[]},false):=by
   rw [htt];exact Gh.ztb _ _ _ _ hj
  have xfp:data r c={r with pieces:=r.pieces++[⟨r.cum+1,c⟩],cum:=r.cum+1,zaq:=[]}:=by
   rw [hd,zis];show (if (dlv {r with pieces:=r.pieces++[⟨r.cum+1,c⟩],cum:=r.cum+1,zaq:=[]} k (tag (r.zbf[k]?.getD 0)) true).2 then _ else (dlv {r with pieces:=r.pieces++[⟨r.cum+1,c⟩],cum:=r.cum+1,zaq:=[]} k (tag (r.zbf[k]?.getD 0)) true).1)=_;rw [hdl];exact zy0 fun h=>by cases h
  rw [xfp];refine ⟨rfl,rfl,h.zbf,h.small,rfl,h.log,fun p hp=>?_,fun j hj=>?_⟩
  . rcases zy10.1 hp with hp | hp
    . exact h.zdg p hp
    . rw [zy7] at hp;subst hp;exact ⟨k,hk,h2,h3,h5,hc⟩
  . show ((r.pieces++[(⟨r.cum+1,c⟩:zav)]).filter _).map _=_
    unfold at1;by_cases e:j=k
    . subst e
      rw [zy1 rfl,hf,zy40,h.cur j hk,List.mapIdx_append];simp [h4]
    . rw [zy0 e,hother j e];exact h.cur j hj
 | true =>
  rw [zy1 rfl];have hj:join ((r.pieces++[(⟨r.cum+1,c⟩:zav)]).filter (Rcv.zdg k (T k) true))=some (U k++[c.data]).flatten:=by
   rw [hf];have hcur:=h.cur k hk;have hdat:((r.pieces.filter (Rcv.zdg k (T k) true)).map fun p=>p.chunk.data)=U k:=by
    have:=congrArg (List.map Prod.snd) hcur;rw [zy94] at this;rw [show ((r.pieces.filter (Rcv.zdg k (T k) true)).map fun p=>p.chunk.data)=(r.pieces.filter (Rcv.zdg k (T k) true)).map (Prod.snd∘fun p:zav=>(p.chunk.part,p.chunk.data)) from rfl,this];apply zy75;intro i;rw [zy13,zy47];cases (U k)[i]?<;>rfl
   have:=yxe (l:=r.pieces.filter (Rcv.zdg k (T k) true)++[⟨r.cum+1,c⟩]) zz3 fun i p hp=>by
    rw [zy4,zy48,hl];rcases Gh.zei hp with hp | ⟨rfl,rfl⟩
    . have hi:=Gh.zci hp
      refine ⟨?_,by rw [hopen p (zy5 hp),zy20 (by omega)]⟩;have:=congrArg (fun l=>l[i]?) hcur;simp only [zy13,zy47,hp] at this;rw [zy2 (by omega)] at this;simp at this;exact this.1
    . exact ⟨by rw [hl];exact h4,by rw [hl];simpa using hc⟩
   rw [this,zy40,hdat];rfl
  have hdl:dlv {r with pieces:=r.pieces++[⟨r.cum+1,c⟩],cum:=r.cum+1,zaq:=[]} k (tag (r.zbf[k]?.getD 0)) true=({zma {r with pieces:=r.pieces++[⟨r.cum+1,c⟩],cum:=r.cum+1,zaq:=[]} k (T k) true with log:=r.log++[⟨k,T k,true,(U k++[c.data]).flatten⟩]},true):=by
   rw [htt];exact Gh.zvv _ _ _ _ hj
  have hgone:∀ p∈(r.pieces++[(⟨r.cum+1,c⟩:zav)]).filter (fun p=>!Rcv.zdg k (T k) true p),p∈r.pieces/\p.chunk.stream≠(k:Int):=by
   intro p hp;obtain ⟨g1,g2⟩:=zy54.1 hp;rcases zy10.1 g1 with g1 | g1
   . obtain ⟨j,j1,j2,j3,j4,j5⟩:=h.zdg p g1
     refine ⟨g1,fun e=>?_⟩;have:j=k:=by omega
     subst this;rw [show Rcv.zdg j (T j) true p=true by unfold Rcv.zdg;simp [j2,j3,j4]] at g2;cases g2
   . rw [zy7] at g1;subst g1;rw [hm] at g2;cases g2
  have hset:r.zbf.set k (r.zbf[k]?.getD 0+1)=(List.range S).map fun j=>((at1 T k (T k+1) j:Nat):Int):=by
   apply zy75;intro i;rw [h.zbf];by_cases e:k=i
   . subst e
     rw [zy17 (by simp;exact hk),zy13,zy13,zy98 hk];simp [at1]
   . rw [zy29 e,zy13,zy13]
     by_cases hi:i<S
     . rw [zy98 hi]
       show some (T i:Int)=some ((at1 T k (T k+1) i:Nat):Int);unfold at1;rw [zy0 fun h=>e h.symm]
     . rw [zy52 (by simp;omega)];rfl
  generalize hR:yez {zma {r with pieces:=r.pieces++[⟨r.cum+1,c⟩],cum:=r.cum+1,zaq:=[]} k (T k) true with log:=r.log++[⟨k,T k,true,(U k++[c.data]).flatten⟩]} k=R;have R1:R.zbf=(List.range S).map fun j=>((at1 T k (T k+1) j:Nat):Int):=by rw [<- hR];exact hset
  have R2:R.pieces=(r.pieces++[(⟨r.cum+1,c⟩:zav)]).filter (fun p=>!Rcv.zdg k (T k) true p):=by rw [<- hR];rfl
  have R3:R.cum=r.cum+1/\R.zaq=[]/\R.log=r.log++[⟨k,T k,true,(U k++[c.data]).flatten⟩]/\R.config=r.config:=by rw [<- hR];exact ⟨rfl,rfl,rfl,rfl⟩
  have hnone:dlv R k (tag (R.zbf[k]?.getD 0)) true=(R,false):=by
   refine Gh.ztb _ _ _ _ ?_;have:R.pieces.filter (Rcv.zdg k (tag (R.zbf[k]?.getD 0)) true)=[]:=by
    rw [R2,zy97];intro p hp;have:=(hgone p hp).2;unfold Rcv.zdg;simp [this]
   rw [this];rfl
  have xfp:data r c=R:=by
   rw [hd,zis];show (if (dlv {r with pieces:=r.pieces++[⟨r.cum+1,c⟩],cum:=r.cum+1,zaq:=[]} k (tag (r.zbf[k]?.getD 0)) true).2 then turns (yez (dlv {r with pieces:=r.pieces++[⟨r.cum+1,c⟩],cum:=r.cum+1,zaq:=[]} k (tag (r.zbf[k]?.getD 0)) true).1 k) k else _)=_;rw [hdl];refine (zy1 rfl).trans ?_;show turns (yez {zma {r with pieces:=r.pieces++[⟨r.cum+1,c⟩],cum:=r.cum+1,zaq:=[]} k (T k) true with log:=r.log++[⟨k,T k,true,(U k++[c.data]).flatten⟩]} k) k=R;rw [hR,zis,hnone];exact zy0 fun h=>by cases h
  rw [xfp];refine ⟨R3.1,R3.2.2.2,R1,fun j=>?_,R3.2.1,by rw [R3.2.2.1,h.log],fun p hp=>?_,fun j hj2=>?_⟩
  . unfold at1
    have:=h.small j;split<;>omega
  . rw [R2] at hp
    obtain ⟨g1,g2⟩:=hgone p hp;obtain ⟨j,j1,j2,j3,j4,j5⟩:=h.zdg p g1;have:j≠k:=fun e=>g2 (by rw [j2,e])
    exact ⟨j,j1,j2,by rw [j3];unfold at1;rw [zy0 this],j4,j5⟩
  . rw [R2]
    unfold at1;by_cases e:j=k
    . subst e
      rw [zy1 rfl,zy1 rfl];have:((r.pieces++[(⟨r.cum+1,c⟩:zav)]).filter (fun p=>!Rcv.zdg j (T j) true p)).filter (Rcv.zdg j ((T j+1:Nat):Int) true)=[]:=by
       rw [zy97];intro p hp;have:=(hgone p hp).2;unfold Rcv.zdg;simp [this]
      rw [this];rfl
    . rw [zy0 e,zy0 e,List.filter_filter]
      have:(r.pieces++[(⟨r.cum+1,c⟩:zav)]).filter (fun p=>Rcv.zdg j (T j) true p&&!Rcv.zdg k (T k) true p)=(r.pieces++[(⟨r.cum+1,c⟩:zav)]).filter (Rcv.zdg j (T j) true):=by
       refine List.filter_congr fun p _=>?_
       cases h6:Rcv.zdg j (T j) true p with
       | false=>rfl
       | true =>
        have h7:=(Gh.zjs.1 h6).1;rw [show Rcv.zdg k (T k) true p=false by unfold Rcv.zdg;simp [h7];omega];rfl
      rw [this,hother j e];exact h.cur j hj2
theorem RI.tot_cur (h:RI S T U lg r) {k:Nat} (hk:k<S):tot (r.pieces.filter (Rcv.zdg k (T k) true))=((U k).map List.length).sum:=by
 have:=congrArg (List.map fun x:Int×List UInt8=>x.2.length) (h.cur k hk);unfold tot;rw [zy94] at this;rw [show ((r.pieces.filter (Rcv.zdg k (T k) true)).map fun p=>p.chunk.data.length)=(r.pieces.filter (Rcv.zdg k (T k) true)).map ((fun x:Int×List UInt8=>x.2.length)∘fun p:zav=>(p.chunk.part,p.chunk.data)) from rfl,this];congr 1;apply zy75;intro i;rw [zy13,zy47,zy13];cases (U k)[i]?<;>rfl
theorem RI.held1 (h:RI 1 T U lg r):tot r.pieces=((U 0).map List.length).sum:=by
 rw [<- h.tot_cur (by decide:0<1)];congr 1;refine (zy88.2 fun p hp=>?_).symm;obtain ⟨j,j1,j2,j3,j4,j5⟩:=h.zdg p hp;have:j=0:=by omega
 subst this;unfold Rcv.zdg;simp [j2,j3,j4]
theorem RI.held2 (h:RI 2 T U lg r):tot r.pieces=((U 0).map List.length).sum+((U 1).map List.length).sum:=by
 rw [<- h.tot_cur (by decide:0<2),<- h.tot_cur (by decide:1<2)];have e:∀ l:List zav,(∀ p∈l,p∈r.pieces)->tot l=tot (l.filter (Rcv.zdg (0:Nat) (T 0) true))+tot (l.filter (Rcv.zdg (1:Nat) (T 1) true)):=by
  intro l
  induction l with
  | nil=>intro _;rfl
  | cons p l ih =>
   intro hl;have:=ih fun q hq=>hl q (by simp [hq])
   obtain ⟨j,j1,j2,j3,j4,j5⟩:=h.zdg p (hl p zz3);rw [zfl,this,zy64,zy64];rcases (show j=0\/j=1 by omega) with rfl | rfl
   . rw [zy1 (by unfold Rcv.zdg;simp [j2,j3,j4]),zy0 (by unfold Rcv.zdg;simp [j2]),zfl];omega
   . rw [zy0 (by unfold Rcv.zdg;simp [j2]),zy1 (by unfold Rcv.zdg;simp [j2,j3,j4]),zfl];omega
 exact e r.pieces fun _ h=>h
theorem xig (r:Receiver) (c:Chunk) (h:zcw r.cum c.tag<=r.cum):forward r c=r:=by
 unfold forward;rw [zy1 (.inr h)]
theorem xbz (h:RI 1 T U lg r) (hT:T 0=0) (hU:U 0=[]) {c:Chunk} (h1:c.kind=3) (hs:c.zbv=[⟨0,0,true⟩]) {n:Int} (hn:zcw r.cum c.tag=n) (hg:r.cum<n) :
 (forward r c).cum=n/\(forward r c).config=r.config/\RI 1 (at1 T 0 1) U lg (forward r c):=by
 have hp:r.pieces=[]:=by
  apply List.eq_nil_iff_forall_not_mem.2;intro p hp;obtain ⟨j,j1,j2,j3,j4,j5⟩:=h.zdg p hp;have:j=0:=by omega
  subst this;have h2:=h.cur 0 zz5;rw [hU] at h2;have h3:p∈r.pieces.filter (Rcv.zdg (0:Nat) (T 0) true):=zy54.2 ⟨hp,by unfold Rcv.zdg;simp [j2,j3,j4]⟩;rw [zy150.1 h2] at h3;cases h3
 have ht:r.zbf=[0]:=by rw [h.zbf];show [((T 0:Nat):Int)]=[0];rw [hT];rfl
 have hnone:∀ (x:Receiver) (s m:Int),x.pieces=[]->dlv x s m true=(x,false):=fun x s m hx=>Gh.ztb _ _ _ _ (by rw [hx];rfl)
 have hf:forward r c={r with cum:=n,zaq:=[],zbf:=[1]}:=by
  unfold forward;rw [zy0 (by rw [hn];omega),hs,hn,h.zaq];show zkz {r with cum:=n,zaq:=[]} ⟨0,0,true⟩=_;unfold zkz;rw [zy0 (by show ¬ ((0:Int)<0\/(r.zbf.length:Int)<=0);rw [ht];decide),zy0 zz5];show turns (ybd {r with cum:=n,zaq:=[]} 0 (zcw (r.zbf[0]?.getD 0) 0)) 0=_;have e1:zcw (r.zbf[0]?.getD 0) 0=0:=by rw [ht];rfl
  rw [e1];have e2:ybd {r with cum:=n,zaq:=[]} 0 0={r with cum:=n,zaq:=[],zbf:=[1]}:=by
   unfold ybd;rw [show ((0:Int)+1-((({r with cum:=n,zaq:=[]}:Receiver).zbf)[0]?.getD 0)).toNat=1 by show ((0:Int)+1-(r.zbf[0]?.getD 0)).toNat=1;rw [ht];rfl];show pass {r with cum:=n,zaq:=[]} 0=_;unfold pass;rw [hnone {r with cum:=n,zaq:=[]} _ _ hp];show yez (if (false=true) then _ else zma {r with cum:=n,zaq:=[]} 0 _ true) 0=_;rw [zy0 (by decide)];unfold yez zma;show ({r with cum:=n,zaq:=[],pieces:=r.pieces.filter _,zbf:=r.zbf.set 0 (r.zbf[0]?.getD 0+1)}:Receiver)=_;rw [hp,ht];rfl
  rw [e2,zis,hnone {r with cum:=n,zaq:=[],zbf:=[1]} _ _ hp];exact zy0 fun h=>by cases h
 rw [hf];refine ⟨rfl,rfl,by show ([1]:List Int)=[((at1 T 0 1 0:Nat):Int)];rfl,fun k=>?_,rfl,h.log,fun p hp2=>?_,fun k hk=>?_⟩
 . unfold at1
   have:=h.small k;split<;>omega
 . have hp2:p∈r.pieces:=hp2
   rw [hp] at hp2;cases hp2
 . have:k=0:=by omega
   subst this;show (r.pieces.filter _).map _=_;rw [hp,hU];rfl
theorem xmy {c:Config} {S:Nat} (hS:c.streams=(S:Int)):RI S (fun _=>0) (fun _=>[]) [] (yag c):=by
 refine ⟨?_,fun _=>by omega,rfl,rfl,fun p hp=>by simp [yag] at hp,fun k _=>rfl⟩;show List.replicate (max c.streams 0).toNat 0=_;rw [hS,show (max ((S:Nat):Int) 0).toNat=S by omega];exact (List.eq_replicate_iff.2 ⟨by simp,fun b hb=>by obtain ⟨k,-,rfl⟩:=zy23.1 hb;rfl⟩).symm
end
end Tp
namespace Tp
inductive GP where
 | data (l:List Nat)
 | zex (c:Nat)
structure GM where
 todo:List Nat
 out:List (Nat×Nat)
 a:Nat
 R:Nat
 way:List GP
 win:Nat
 slow:Nat
 par:Nat
 al:Nat
 wait:Nat
 errs:Nat
 fwd:Bool
 act:Nat
 ok:Bool
namespace GM
noncomputable def zak (l:List (Nat×Nat)):Nat:=List.rec (motive:=fun _=>Nat) 0 (fun x _ ih=>bif Nat.beq x.2 1 then Nat.add x.1 ih else ih) l
noncomputable def lead (l:List (Nat×Nat)):Nat:=List.rec (motive:=fun _=>Nat) 0 (fun x _ ih=>bif Nat.beq x.2 4 then Nat.succ ih else 0) l
noncomputable def again (win i f:Nat) (l:List (Nat×Nat)):List (Nat×Nat)×Nat×List (Nat×Nat):=List.rec (motive:=fun _=>Nat->Nat->List (Nat×Nat)×Nat×List (Nat×Nat)) (fun _ f=>([],f,[])) (fun x _ ih i f=>bif Nat.beq x.2 3&&Nat.blt f win then ((x.1,1)::(ih (Nat.succ i) (Nat.add f x.1)).1,(ih (Nat.succ i) (Nat.add f x.1)).2.1,(Nat.mul 2 i,Nat.add 9 x.1)::(ih (Nat.succ i) (Nat.add f x.1)).2.2) else (x::(ih (Nat.succ i) f).1,(ih (Nat.succ i) f).2.1,(ih (Nat.succ i) f).2.2)) l i f
noncomputable def fresh (win len k f:Nat) (l:List Nat):Nat×Nat×Bool:=List.rec (motive:=fun _=>Nat->Nat->Nat×Nat×Bool) (fun _ f=>(0,f,true)) (fun n _ ih k f=>bif Nat.blt f win&&Nat.blt (Nat.add len k) 60 then (bif Nat.beq f 0||Nat.ble (Nat.add f n) 280 then (Nat.succ (ih (Nat.succ k) (Nat.add f n)).1,(ih (Nat.succ k) (Nat.add f n)).2.1,(ih (Nat.succ k) (Nat.add f n)).2.2) else (0,f,false)) else (0,f,true)) l k f
noncomputable def pack (z:Nat) (cur:List Nat) (l:List (Nat×Nat)):List GP:=List.rec (motive:=fun _=>Nat->List Nat->List GP) (fun _ cur=>match cur with | []=>[] | _=>[.data cur]) (fun x _ ih z cur=>bif Nat.ble (Nat.add z x.2) 60 then ih (Nat.add z x.2) (cur++[x.1]) else .data cur::ih x.2 [x.1]) l z cur
noncomputable def number (i:Nat) (l:List Nat):List (Nat×Nat):=List.rec (motive:=fun _=>Nat->List (Nat×Nat)) (fun _=>[]) (fun n _ ih i=>(Nat.mul 2 i,Nat.add 9 n)::ih (Nat.succ i)) l i
noncomputable def zio (g:GM):GM×List (Nat×Nat) :=
 bif g.fwd&&!Nat.beq (lead g.out) 0 then ({g with fwd:=false,al:=bif Nat.beq g.al 0 then g.wait else g.al},[(2*(g.a+lead g.out)+1,8)]) else (g,[])
noncomputable def ziv (g:GM):GM×List (Nat×Nat):=({g with out:=(again g.win g.a (zak g.out) g.out).1},(again g.win g.a (zak g.out) g.out).2.2)
noncomputable def yne (g:GM):Nat×Nat×Bool:=fresh g.win g.out.length 0 (zak g.out) g.todo
noncomputable def yuk (g:GM):GM×List (Nat×Nat):=({g with todo:=g.todo.drop (yne g).1,out:=g.out++(g.todo.take (yne g).1).map fun n=>(n,1),ok:=g.ok&&(yne g).2.2},number (g.a+g.out.length) (g.todo.take (yne g).1))
noncomputable def yjv (g:GM):GM:={g with al:=bif Nat.beq (zak g.out) 0 then (bif Nat.beq (lead g.out) 0 then 0 else g.al) else (bif Nat.beq g.al 0 then g.wait else g.al)}
noncomputable def xpk (g:GM) (ps:List GP):GM:={g with way:=g.way++ps,ok:=g.ok&&Nat.ble (g.way.length+ps.length) 40}
noncomputable def emG (g:GM):List (Nat×Nat):=(zio g).2++(ziv (zio g).1).2++(yuk (ziv (zio g).1).1).2
noncomputable def zfc (g:GM):GM:=xpk (yjv (yuk (ziv (zio g).1).1).1) (pack 0 [] (emG g))
noncomputable def bytes (l:List (Nat×Nat)):Nat:=List.rec (motive:=fun _=>Nat) 0 (fun x _ ih=>bif Nat.beq x.2 4 then ih else Nat.add x.1 ih) l
noncomputable def zza (g:GM) (c:Nat):GM :=
 {g with out:=g.out.drop (c-g.a),a:=c,fwd:=bif Nat.beq (c-g.a) 0||Nat.beq (lead (g.out.drop (c-g.a))) 0 then g.fwd else true,ok:=g.ok&&Nat.ble g.a c&&Nat.ble (c-g.a) g.out.length&&(Nat.beq g.act 0||(g.out.take (c-g.a)).all fun x=>!Nat.beq x.2 3)&&Nat.ble g.win 100000&&Nat.ble g.par 100000}
noncomputable def zyp (g:GM) (b:Nat):GM:=bif Nat.beq b 0 then g else
 bif Nat.ble g.win g.slow then {g with errs:=0,wait:=3,al:=0,win:=g.win+min b 4} else
 bif Nat.ble g.win (g.par+b) then {g with errs:=0,wait:=3,al:=0,par:=g.par+b-g.win,win:=g.win+4} else
 {g with errs:=0,wait:=3,al:=0,par:=g.par+b}
noncomputable def zjo (g:GM) (c:Nat):GM:=zyp (zza g c) (bytes (g.out.take (c-g.a)))
noncomputable def items (h:Nat) (l:List Nat) (x:Nat×Bool):Nat×Bool:=List.rec (motive:=fun _=>Nat×Bool->Nat×Bool) (fun x=>x) (fun c _ ih x=>bif Nat.beq (Nat.mod c 2) 1 then (bif Nat.ble (Nat.div c 2) x.1 then ih x else ih (Nat.div c 2,x.2&&(Nat.beq x.1 0&&Nat.beq (Nat.div c 2) h))) else (bif Nat.beq (Nat.div c 2) x.1 then ih (Nat.succ x.1,x.2&&Nat.ble h x.1) else ih (x.1,x.2&&Nat.ble (Nat.div c 2) x.1))) l x
noncomputable def zfm (h:Nat) (g:GM):GM:=match g.way with
 | []=>g
 | .data l::w=>zfc (xpk {g with R:=(items h l (g.R,g.ok)).1,way:=w,ok:=(items h l (g.R,g.ok)).2} [.zex (items h l (g.R,g.ok)).1])
 | .zex c::w=>zfc (zjo {g with way:=w} c)
noncomputable def drop (g:GM):GM:=match g.way with
 | []=>g
 | _::w=>zfc {g with way:=w}
noncomputable def zjb (l:List (Nat×Nat)):List (Nat×Nat):=l.map fun x=>bif Nat.beq x.2 1 then (x.1,3) else x
noncomputable def zib (two:Bool) (g:GM):GM:=match g.al with
 | 0=>g
 | 1=>bif two&&Nat.beq g.act 0&&Nat.ble 3 g.errs then {g with out:=zjb g.out,fwd:=bif Nat.beq (lead (zjb g.out)) 0 then g.fwd else true,win:=8,slow:=128,par:=0,al:=0,wait:=3,errs:=0,act:=1}
  else {g with out:=zjb g.out,fwd:=bif Nat.beq (lead (zjb g.out)) 0 then g.fwd else true,win:=4,slow:=max (g.win / 2) 16,par:=0,al:=0,wait:=min (2*g.wait) 24,errs:=g.errs+1,ok:=g.ok&&(!two||Nat.ble (g.errs+1) 3)&&Nat.ble g.win 100000&&Nat.ble g.errs 1000}
 | n+2=>{g with al:=n+1}
noncomputable def tick (two:Bool) (g:GM):GM:=zfc (zib two g)
noncomputable def comes (h:Nat):Nat->GM->GM
 | 0,g=>g
 | n+1,g=>comes h n (zfm h g)
noncomputable def round (h:Nat) (g:GM):GM:=tick false (comes h g.way.length g)
noncomputable def busy (g:GM):Bool:=!(g.todo.isEmpty&&g.out.isEmpty&&g.way.isEmpty)
noncomputable def settle (h:Nat):Nat->GM->GM
 | 0,g=>g
 | n+1,g=>bif busy g then settle h n (round h g) else g
noncomputable def new (todo:List Nat):GM:=⟨todo,[],0,0,[],8,128,0,0,3,0,false,0,true⟩
noncomputable def xpg:Nat->Nat->List Nat
 | 0,_=>[]
 | k+1,n=>bif Nat.ble n 4 then [n] else 4::xpg k (n-4)
noncomputable def cut (n:Nat):List Nat:=xpg n n
noncomputable def zeh (g:GM):Bool:=g.ok&&!busy g&&Nat.beq g.R g.a
noncomputable def send (g:GM) (l:List Nat):GM:=zfc {g with todo:=g.todo++l}
theorem zdv (x:Nat×Nat) (l:List (Nat×Nat)):zak (x::l)=(if x.2=1 then x.1 else 0)+zak l:=by
 show (bif Nat.beq x.2 1 then Nat.add x.1 (zak l) else zak l)=_;by_cases h:x.2=1
 . rw [show Nat.beq x.2 1=true by rw [h];rfl,zy1 h];rfl
 . rw [show Nat.beq x.2 1=false by cases hb:Nat.beq x.2 1 with | false=>rfl | true=>exact absurd (zy6 hb) h,zy0 h,zy58];rfl
theorem zie {a b:Nat} (h:a≠b):Nat.beq a b=false:=by cases hb:Nat.beq a b with | false=>rfl | true=>exact absurd (zy6 hb) h
theorem zgf {a b:Nat} (h:a=b):Nat.beq a b=true:=by rw [h];exact Nat.beq_refl b
theorem zzr (l m:List (Nat×Nat)):zak (l++m)=zak l+zak m:=by
 induction l with
 | nil=>exact (zy58 _).symm
 | cons x l ih=>rw [zy43,zdv,zdv,ih,zy104]
theorem xda {x:Nat×Nat} {l:List (Nat×Nat)} (h:x.2=4):lead (x::l)=lead l+1:=by
 show (bif Nat.beq x.2 4 then Nat.succ (lead l) else 0)=_;rw [zgf h];rfl
theorem xix {x:Nat×Nat} {l:List (Nat×Nat)} (h:x.2≠4):lead (x::l)=0:=by
 show (bif Nat.beq x.2 4 then Nat.succ (lead l) else 0)=_;rw [zie h];rfl
theorem zzg (x:Nat×Nat) (l:List (Nat×Nat)):bytes (x::l)=(if x.2=4 then 0 else x.1)+bytes l:=by
 show (bif Nat.beq x.2 4 then bytes l else Nat.add x.1 (bytes l))=_;by_cases h:x.2=4
 . rw [zgf h,zy1 h,zy58];rfl
 . rw [zie h,zy0 h];rfl
theorem zzc (win i f:Nat) (x:Nat×Nat) (l:List (Nat×Nat)):again win i f (x::l)=if x.2=3/\f<win then ((x.1,1)::(again win (i+1) (f+x.1) l).1,(again win (i+1) (f+x.1) l).2.1,(2*i,9+x.1)::(again win (i+1) (f+x.1) l).2.2) else (x::(again win (i+1) f l).1,(again win (i+1) f l).2.1,(again win (i+1) f l).2.2):=by
 show (bif Nat.beq x.2 3&&Nat.blt f win then ((x.1,1)::(again win (i+1) (f+x.1) l).1,(again win (i+1) (f+x.1) l).2.1,(2*i,9+x.1)::(again win (i+1) (f+x.1) l).2.2) else (x::(again win (i+1) f l).1,(again win (i+1) f l).2.1,(again win (i+1) f l).2.2))=_;by_cases h:x.2=3/\f<win
 . rw [zgf h.1,show Nat.blt f win=true from zy69 h.2,zy1 h];rfl
 . rw [zy0 h]
   have:(Nat.beq x.2 3&&Nat.blt f win)=false:=by
    cases hb:(Nat.beq x.2 3&&Nat.blt f win) with
    | false=>rfl
    | true =>
     rw [zy14] at hb;exact absurd ⟨zy6 hb.1,zy15 hb.2⟩ h
   rw [this];rfl
theorem zrp (win len k f n:Nat) (l:List Nat):fresh win len k f (n::l)=if f<win/\len+k<60 then (if f=0\/f+n<=280 then ((fresh win len (k+1) (f+n) l).1+1,(fresh win len (k+1) (f+n) l).2.1,(fresh win len (k+1) (f+n) l).2.2) else (0,f,false)) else (0,f,true):=by
 show (bif Nat.blt f win&&Nat.blt (Nat.add len k) 60 then (bif Nat.beq f 0||Nat.ble (Nat.add f n) 280 then ((fresh win len (k+1) (f+n) l).1+1,(fresh win len (k+1) (f+n) l).2.1,(fresh win len (k+1) (f+n) l).2.2) else (0,f,false)) else (0,f,true))=_;by_cases h:f<win/\len+k<60
 . rw [show Nat.blt f win=true from zy69 h.1,show Nat.blt (Nat.add len k) 60=true from zy69 h.2,zy1 h]
   by_cases h2:f=0\/f+n<=280
   . have:(Nat.beq f 0||Nat.ble (Nat.add f n) 280)=true:=by
      rcases h2 with h2 | h2
      . rw [zgf h2];rfl
      . rw [show Nat.ble (Nat.add f n) 280=true from zy69 h2,Bool.or_true]
     rw [this,zy1 h2];rfl
   . have:(Nat.beq f 0||Nat.ble (Nat.add f n) 280)=false:=by
      cases hb:(Nat.beq f 0||Nat.ble (Nat.add f n) 280) with
      | false=>rfl
      | true =>
       rw [zy74] at hb;exact absurd (hb.imp zy6 zy15) h2
     rw [this,zy0 h2];rfl
 . rw [zy0 h]
   have:(Nat.blt f win&&Nat.blt (Nat.add len k) 60)=false:=by
    cases hb:(Nat.blt f win&&Nat.blt (Nat.add len k) 60) with
    | false=>rfl
    | true =>
     rw [zy14] at hb;exact absurd ⟨zy15 hb.1,zy15 hb.2⟩ h
   rw [this];rfl
def ztf (z:Nat):List (Nat×Nat)->Nat
 | []=>0
 | x::r=>if z+x.2<=60 then ztf (z+x.2) r+1 else 0
theorem ypx:∀ (l:List (Nat×Nat)) (z:Nat) (cur:List Nat),cur≠[]->(∀ x∈l,x.2<=60)->pack z cur l=.data (cur++(l.take (ztf z l)).map Prod.fst)::pack 0 [] (l.drop (ztf z l))
 | [],z,cur,hc,_=>by
  cases cur with
  | nil=>exact absurd rfl hc
  | cons c cur=>rw [show ztf z []=0 from rfl,List.take_nil,zy87,zy9];rfl
 | x::l,z,cur,hc,h=>by
  have ih:=fun z cur hc=>ypx l z cur hc fun y hy=>h y zz40
  show (bif Nat.ble (Nat.add z x.2) 60 then pack (z+x.2) (cur++[x.1]) l else .data cur::pack x.2 [x.1] l)=_;rw [ztf];by_cases h1:z+x.2<=60
  . rw [show Nat.ble (Nat.add z x.2) 60=true from zy69 h1,zy1 h1,zy116,zy149,zy27]
    show pack (z+x.2) (cur++[x.1]) l=_;rw [ih _ _ (by simp),zy24];rfl
  . rw [show Nat.ble (Nat.add z x.2) 60=false by cases hb:Nat.ble (Nat.add z x.2) 60 with | false=>rfl | true=>exact absurd (zy15 hb) h1,zy0 h1,List.take_zero,zy142,zy87,zy9]
    show GP.data cur::pack x.2 [x.1] l=.data cur::(bif Nat.ble (Nat.add 0 x.2) 60 then pack (0+x.2) ([]++[x.1]) l else .data []::pack x.2 [x.1] l);rw [show Nat.ble (Nat.add 0 x.2) 60=true from zy69 (by have:=h x (by simp);show 0+x.2<=60;omega)];show _=GP.data cur::pack (0+x.2) [x.1] l;rw [zy58]
theorem yyn {x:Nat×Nat} {l:List (Nat×Nat)} (h:∀ y∈x::l,y.2<=60):pack 0 [] (x::l)=.data (((x::l).take (ztf 0 (x::l))).map Prod.fst)::pack 0 [] ((x::l).drop (ztf 0 (x::l))):=by
 have h0:0+x.2<=60:=by have:=h x zz3;omega
 show (bif Nat.ble (Nat.add 0 x.2) 60 then pack (0+x.2) ([]++[x.1]) l else .data []::pack x.2 [x.1] l)=_;rw [show Nat.ble (Nat.add 0 x.2) 60=true from zy69 h0,ztf,zy1 h0,zy116,zy149,zy27];exact ypx l (0+x.2) [x.1] zz3 fun y hy=>h y zz40
theorem zda {a b:Bool} (h:(a&&b)=true):a=true:=(zy14 _ _ ▸ h:a=true/\b=true).1
theorem zgy {a b:Bool} (h:(a&&b)=true):b=true:=(zy14 _ _ ▸ h:a=true/\b=true).2
theorem xif (g:GM):(zio g).1.ok=g.ok:=by unfold zio;cases g.fwd&&!Nat.beq (lead g.out) 0<;>rfl
theorem yly {g:GM} (h:(zfc g).ok=true):g.ok=true/\(yne (ziv (zio g).1).1).2.2=true/\(zfc g).way.length<=40:=by
 have h1:(((ziv (zio g).1).1.ok&&(yne (ziv (zio g).1).1).2.2)&&Nat.ble ((yjv (yuk (ziv (zio g).1).1).1).way.length+(pack 0 [] (emG g)).length) 40)=true:=h;refine ⟨?_,zgy (zda h1),?_⟩
 . have:=zda (zda h1)
   rw [<- xif g];exact this
 . have:=zy15 (zgy h1)
   show ((yjv (yuk (ziv (zio g).1).1).1).way++pack 0 [] (emG g)).length<=40;rw [zy4];exact this
end GM
end Tp
namespace Tp
open Ser Snd Pck
inductive zzb {α β:Type} (R:α->β->Prop):List α->List β->Prop where
 | nil:zzb R [] []
 | cons {x:α} {y:β} {l:List α} {m:List β} (h:R x y) (t:zzb R l m):zzb R (x::l) (y::m)
theorem zzb.len {α β:Type} {R:α->β->Prop} {l:List α} {m:List β} (h:zzb R l m):l.length=m.length:=by
 induction h with
 | nil=>rfl
 | cons _ _ ih=>simp [ih]
theorem zzb.app {α β:Type} {R:α->β->Prop} {l:List α} {m:List β} (h:zzb R l m) {l':List α} {m':List β} (h':zzb R l' m'):zzb R (l++l') (m++m'):=by
 induction h with
 | nil=>exact h'
 | cons h _ ih=>exact .cons h ih
theorem zzb.imp {α β:Type} {R Q:α->β->Prop} {l:List α} {m:List β} (h:zzb R l m) (hi:∀ x y,y∈m->R x y->Q x y):zzb Q l m:=by
 induction h with
 | nil=>exact .nil
 | cons h _ ih=>exact .cons (hi _ _ zz3 h) (ih fun x y hy=>hi x y zz40)
def zwj (f:Int) (n:Nat):Chunk:=⟨3,tag (f-1+n),0,0,0,false,false,[],[],0,[⟨0,0,true⟩]⟩
def zpf (f:Int) (Cs:List CH) (c:Nat):Chunk:=if c % 2=1 then zwj f (c / 2) else match Cs[c / 2]? with
 | some x=>x.mk' f (c / 2)
 | none=>zwj f 0
structure CH.xgo (x:CH):Prop where
 stream:x.stream<4
 mid:x.mid<60000
 part:x.part<=255
 d1:1<=x.data.length
 d4:x.data.length<=4
def zog (Cs:List CH) (y:Nat×Nat):Prop:=(y.1 % 2=1/\y.2=8)\/(y.1 % 2=0/\∃ x,Cs[y.1 / 2]?=some x/\x.xgo/\y.2=9+x.data.length)
theorem yfa {f:Int} {Cs:List CH} {i:Nat} {x:CH} (h:Cs[i]?=some x):zpf f Cs (2*i)=x.mk' f i:=by
 unfold zpf;rw [zy0 (by omega),show 2*i / 2=i by omega,h]
theorem xbg {f:Int} {Cs:List CH} {n:Nat}:zpf f Cs (2*n+1)=zwj f n:=by
 unfold zpf;rw [zy1 (by omega),show (2*n+1) / 2=n by omega]
theorem zwb (n:Int):(zcj n).length=2:=rfl
theorem yln {f:Int} {i:Nat} {x:CH} (h:x.xgo):Chk.zdl (x.mk' f i)=0/\(Chk.bytes (x.mk' f i)).length=9+x.data.length/\Chk.clean (x.mk' f i)=x.mk' f i:=by
 obtain ⟨h1,h2,h3,h4,h5⟩:=h;have ht:=yjq (f+i);have hw:Chk.zdl (x.mk' f i)=0:=by
  unfold Chk.zdl CH.mk';dsimp only;rw [zy0 (by decide),zy0 (by omega),zy1 rfl,zy0 (by omega),zy0 (by omega)]
 refine ⟨hw,?_,rfl⟩;unfold Chk.bytes;rw [zy1 hw];unfold Chk.body CH.mk';simp only [if_true,zy8,zy4,zwb,zy16];omega
theorem ych {f:Int} {n:Nat}:Chk.zdl (zwj f n)=0/\(Chk.bytes (zwj f n)).length=8/\Chk.clean (zwj f n)=zwj f n:=by
 have ht:=yjq (f-1+n);have hw:Chk.zdl (zwj f n)=0:=by
  unfold Chk.zdl zwj;dsimp only;rw [zy0 (by decide),zy0 (by omega),zy0 (by decide),zy0 (by decide),zy0 (by decide)];rfl
 refine ⟨hw,?_,rfl⟩;unfold Chk.bytes;rw [zy1 hw];unfold Chk.body zwj;dsimp only;rw [zy0 (by decide),zy0 (by decide)];simp [Chk.skipBytes,zwb]
theorem zmq {f:Int} {Cs:List CH} {y:Nat×Nat} (h:zog Cs y):Chk.zdl (zpf f Cs y.1)=0/\(Chk.bytes (zpf f Cs y.1)).length=y.2/\Chk.clean (zpf f Cs y.1)=zpf f Cs y.1/\y.2<=13:=by
 rcases h with ⟨h1,h2⟩ | ⟨h1,x,h2,h3,h4⟩
 . unfold zpf
   rw [zy1 h1,h2];exact ⟨ych.1,ych.2.1,ych.2.2,by decide⟩
 . unfold zpf
   rw [zy0 (by omega),h2,h4];have:=h3.d4;exact ⟨(yln h3).1,(yln h3).2.1,(yln h3).2.2,by omega⟩
def chs (f:Int) (Cs:List CH) (l:List (Nat×Nat)):List Chunk:=l.map fun y=>zpf f Cs y.1
theorem yvq {f:Int} {Cs:List CH}:∀ (l:List (Nat×Nat)) (n k:Nat),n<=60->(∀ y∈l,zog Cs y)->zgm 60 n k (chs f Cs l)=((k+GM.ztf n l:Nat):Int)
 | [],n,k,_,_=>rfl
 | y::l,n,k,hn,h=>by
  obtain ⟨h1,h2,h3,h4⟩:=zmq (f:=f) (h y zz3);show zgm 60 n k (zpf f Cs y.1::chs f Cs l)=_;rw [zgm,h2,GM.ztf];by_cases c:n+y.2<=60
  . rw [zy0 (by omega),zy1 c,yvq l (n+y.2) (k+1) c fun z hz=>h z (by simp [hz])]
    congr 1;omega
  . rw [zy1 (by omega),zy0 c];rfl
theorem ybv {f:Int} {Cs:List CH}:∀ {l:List (Nat×Nat)},(∀ y∈l,zog Cs y)->zcb (chs f Cs l)=0/\(chs f Cs l).map Chk.clean=chs f Cs l/\(zbh (chs f Cs l)).length=(l.map Prod.snd).sum
 | [],_=>⟨rfl,rfl,rfl⟩
 | y::l,h=>by
  obtain ⟨h1,h2,h3,h4⟩:=zmq (f:=f) (h y zz3);obtain ⟨i1,i2,i3⟩:=ybv (f:=f) (l:=l) fun z hz=>h z (by simp [hz])
  refine ⟨?_,?_,?_⟩
  . show zcb (zpf f Cs y.1::chs f Cs l)=0
    rw [zcb,zy0 (fun hc=>hc h1),i1]
  . show Chk.clean (zpf f Cs y.1)::(chs f Cs l).map Chk.clean=zpf f Cs y.1::chs f Cs l
    rw [h3,i2]
  . show (zbh (zpf f Cs y.1::chs f Cs l)).length=_
    unfold zbh at i3 ⊢;rw [zy136,zy4,h2,i3,zy27,zy103]
theorem yvr:∀ (l:List (Nat×Nat)) (z:Nat),z<=60->z+((l.take (GM.ztf z l)).map Prod.snd).sum<=60
 | [],z,h=>by simpa [GM.ztf] using h
 | y::l,z,h=>by
  rw [GM.ztf];by_cases c:z+y.2<=60
  . rw [zy1 c,zy116,zy27,zy103]
    have:=yvr l (z+y.2) c;omega
  . rw [zy0 c];simpa using h
def xpu (f:Int) (Cs:List CH) (path:Nat) (p:zba):GP->Prop
 | .data l=>p.back=false/\p.path=(path:Int)/\zfe p.bytes=(l.map (zpf f Cs),0)
 | .zex c=>p.back=true/\p.path=(path:Int)/\∃ ch,zfe p.bytes=([ch],0)/\ch.kind=2/\ch.tag=tag (f-1+c)/\ch.zaq=[]/\280<=ch.room
theorem yta {f:Int} {Cs:List CH} {l:List (Nat×Nat)} (hl:l≠[]) (h:∀ y∈l,zog Cs y):zfe (zbh (chs f Cs l))=(chs f Cs l,0):=by
 obtain ⟨h1,h2,h3⟩:=ybv (f:=f) h;have hne:(zbh (chs f Cs l)).length≠0:=by
  rw [h3];cases l with
  | nil=>exact absurd rfl hl
  | cons y l =>
   rcases h y zz3 with ⟨-,e⟩ | ⟨-,x,-,-,e⟩
   . rw [zy27,zy103];omega
   . rw [zy27,zy103];omega
 unfold zfe;rw [zy0 hne,zjt (zy19 _) h1,h2]
theorem yhy {f:Int} {Cs:List CH} {path:Nat}:∀ (N:Nat) (l:List (Nat×Nat)),l.length<=N->(∀ y∈l,zog Cs y)->zzb (xpu f Cs path) (zgu 60 path N (chs f Cs l)) (GM.pack 0 [] l)
 | 0,l,hN,h=>by
  have:l=[]:=zy49.1 zz0;subst this;exact .nil
 | N+1,[],_,_=>.nil
 | N+1,y::l,hN,h=>by
  have hy:=(zmq (f:=f) (h y zz3)).2.2.2;have hk:GM.ztf 0 (y::l)=GM.ztf (0+y.2) l+1:=by rw [GM.ztf,zy1 (by omega)]
  have hfit:=yvq (f:=f) (y::l) 0 0 zz5 h;have hroom:(zcg 60 (chs f Cs (y::l))).toNat=GM.ztf 0 (y::l):=by
   unfold zcg;rw [show zgm 60 0 0 (chs f Cs (y::l))=_ from hfit];split<;>omega
  rw [GM.yyn fun z hz=>by have:=(zmq (f:=f) (h z hz)).2.2.2;omega];unfold zgu;rw [zy0 (by simp [chs])];have htake:(chs f Cs (y::l)).take (GM.ztf 0 (y::l))=chs f Cs ((y::l).take (GM.ztf 0 (y::l))):=by unfold chs;rw [zy125]
  have hdrop:(chs f Cs (y::l)).drop (GM.ztf 0 (y::l))=chs f Cs ((y::l).drop (GM.ztf 0 (y::l))):=by unfold chs;rw [zy106]
  have hm:∀ z∈(y::l).take (GM.ztf 0 (y::l)),zog Cs z:=fun z hz=>h z (zy62 hz)
  have hne:(y::l).take (GM.ztf 0 (y::l))≠[]:=by rw [hk];simp
  obtain ⟨c1,c2,c3⟩:=ybv (f:=f) hm;have hsum:=yvr (y::l) 0 zz5;have hpb:zcu (chs f Cs ((y::l).take (GM.ztf 0 (y::l)))) 60=(zbh (chs f Cs ((y::l).take (GM.ztf 0 (y::l)))),0):=by
   unfold zcu;rw [zy0 (by unfold chs;rw [zy3];intro e;exact hne (zy49.1 e)),zy0 (fun hc=>hc c1),zy0 (by rw [c3];omega)]
  have h1:zmd 60 path (chs f Cs (y::l))=[⟨path,false,zbh (chs f Cs ((y::l).take (GM.ztf 0 (y::l))))⟩]:=by
   unfold zmd;rw [hroom,htake,hpb,zy1 rfl]
  rw [h1,hroom,hdrop];refine .cons ⟨rfl,rfl,?_⟩ (yhy N _ zz19 fun z hz=>h z (zy70 hz));rw [yta hne hm];unfold chs;rw [zy94];rfl
end Tp
namespace Tp
open Ser Snd
def zif (k mid:Nat):Nat->Nat->List UInt8->List CH
 | 0,_,_=>[]
 | n+1,p,d=>if d.length<=4 then [⟨k,mid,p,true,d⟩] else ⟨k,mid,p,false,d.take 4⟩::zif k mid n (p+1) (d.drop 4)
theorem yff {k mid:Nat}:∀ (n m p:Nat) (d:List UInt8),d.length<=n->d.length<=m->1<=d.length->zif k mid n p d=zif k mid m p d
 | 0,m,p,d,h1,h2,h3=>by omega
 | n+1,0,p,d,h1,h2,h3=>by omega
 | n+1,m+1,p,d,h1,h2,h3=>by
  rw [zif,zif];split
  . rfl
  . rw [yff n m (p+1) (d.drop 4) (by rw [zy37];omega) zz19 zz19]
def xfu (mids:List Int) (m:zae):Int:=if m.mid<0 then mids[m.message.stream.toNat]?.getD 0 else m.mid
def zyw (mids:List Int) (m:zae):List Int:=if m.mid<0 then setAt mids m.message.stream.toNat (fun n=>W (n+1)) else mids
def zje:List Int->List zae->List CH
 | _,[]=>[]
 | mids,m::q=>zif m.message.stream.toNat (xfu mids m).toNat m.message.data.length m.parts.toNat (m.message.data.drop m.sent.toNat)++zje (zyw mids m) q
def zmc (turns:Int) (q:List zae):List zae:=if turns=4 then (q.filter fun m=>decide (m.message.stream=0))++(q.filter fun m=>decide (m.message.stream=1)) else q
def rest (s:zab):List CH:=zje s.mids (zmc s.config.turns s.queue)
def zgo:List Int->List zae->List Int
 | mids,[]=>mids
 | mids,m::q=>zgo (zyw mids m) q
structure QC (E:List Int) (s:zab):Prop where
 turns:s.config.turns=1\/s.config.turns=4/\s.config.streams=2
 part:s.config.part=4
 ord:∀ m∈s.queue,m.message.ordered=true
 mids:∀ n∈s.mids,0<=n
 ends:zgo s.mids (zmc s.config.turns s.queue)=E
section
variable {E:List Int} {N:Nat} {s:zab}
theorem yfg {q:List zae} {k:Nat} {m:zae} (h:q[k]?=some m):q=q.take k++m::q.drop (k+1):=by
 obtain ⟨hk,e⟩:=zy11.1 h;rw [<- e,<- zy31 hk,zy28]
theorem zwd {q:List zae} {k:Nat}:q.eraseIdx k=q.take k++q.drop (k+1):=zy96 q k
theorem yiv {q:List zae} {k:Nat} {m m':zae} (h:q[k]?=some m):q.set k m'=q.take k++m'::q.drop (k+1):=by
 have hk:=(zy11.1 h).1;rw [List.set_eq_take_append_cons_drop,zy1 hk]
theorem xhz {q:List zae} {k:Nat} {m:zae} (h:q[k]?=some m) {p:zae->Bool} (hp:p m=true) (hno:∀ x∈q.take k,p x=false) :
 q.filter p=m::(q.drop (k+1)).filter p/\(q.eraseIdx k).filter p=(q.drop (k+1)).filter p/\∀ m',p m'=true->(q.set k m').filter p=m'::(q.drop (k+1)).filter p:=by
 have h0:(q.take k).filter p=[]:=zy97.2 fun x hx=>by rw [hno x hx];decide
 refine ⟨?_,?_,fun m' hm'=>?_⟩
 . conv=>lhs;rw [yfg h]
   rw [zy59,h0,zy162 hp];rfl
 . rw [zwd,zy59,h0];rfl
 . rw [yiv h,zy59,h0,zy162 hm'];rfl
theorem xbv {q:List zae} {k:Nat} {m:zae} (h:q[k]?=some m) {p:zae->Bool} (hp:p m=false) :
 (q.eraseIdx k).filter p=q.filter p/\∀ m',p m'=false->(q.set k m').filter p=q.filter p:=by
 have e:q.filter p=(q.take k).filter p++(q.drop (k+1)).filter p:=by
  conv=>lhs;rw [yfg h]
  rw [zy59,zy130 (by rw [hp];decide)]
 refine ⟨by rw [zwd,zy59,e],fun m' hm'=>?_⟩;rw [yiv h,zy59,zy130 (by rw [hm'];decide),e]
theorem xkl {q:List zae} {i:Nat} {p:zae->Bool} (hi:i<q.length) (h:∀ j (hj:j<i),p (q[j]'(Nat.lt_trans hj hi))=false):∀ x∈q.take i,p x=false:=by
 intro x hx;obtain ⟨j,hj⟩:=zy33 hx;rw [zy53] at hj;split at hj
 . rename_i hji
   rw [zy2 (by omega)] at hj;cases hj;exact h j hji
 . cases hj
theorem yjt (h:SI N s) (hc:QC E s) (hq:s.queue≠[]):∃ (k:Nat) (m:zae) (L:List zae),zdh s=k/\s.queue[k]?=some m/\zmc s.config.turns s.queue=m::L/\zmc s.config.turns (s.queue.eraseIdx k)=L /\
 ∀ m':zae,m'.message=m.message->zmc s.config.turns (s.queue.set k m')=m'::L:=by
 have hhad:=h.nhad;have hw:=zca h.cfg;have hql:(s.queue.length:Int)≠0:=by have:=zy30.2 hq;omega
 rcases hc.turns with ht | ⟨ht,h2⟩
 . cases hqq:s.queue with
   | nil=>exact absurd hqq hq
   | cons m L =>
    refine ⟨0,m,L,?_,rfl,by rw [ht];rfl,by rw [ht];rfl,fun m' _=>by rw [ht];rfl⟩;unfold zdh Sch.next;rw [zy0 hql,zy0 (by omega),ht];rfl
 . have hto:zdh s=Sch.zer s.queue 0 2:=by
    unfold zdh Sch.next;rw [zy0 hql,zy0 (by omega),ht,zy0 (by decide),zy0 (by decide),zy1 rfl,show s.sched.had.length=2 by omega]
   have hst:∀ m∈s.queue,m.message.stream=0\/m.message.stream=1:=fun m hm=>by have:=(h.queue m hm).st0;have:=(h.queue m hm).st1;omega
   have ho:∀ q,zmc s.config.turns q=(q.filter fun m=>decide (m.message.stream=0))++(q.filter fun m=>decide (m.message.stream=1)):=fun q=>by unfold zmc;rw [zy1 ht]
   by_cases c1:Sch.first s.queue 0>=0
   . obtain ⟨i,h1,e,h3,h4⟩:=Sch.zup (p:=fun m:zae=>m.message.stream==0) (l:=s.queue) (k:=0) c1
     have hm:s.queue[i]?=some s.queue[i]:=zy2 h1;have hm0:(s.queue[i]).message.stream=0:=by simpa using h3
     have hno:∀ x∈s.queue.take i,(decide (x.message.stream=0))=false:=xkl h1 fun j hj=>by have:=h4 j hj;simpa using this
     obtain ⟨f1,f2,f3⟩:=xhz hm (p:=fun m=>decide (m.message.stream=0)) (by simpa using hm0) hno;obtain ⟨g1,g2⟩:=xbv hm (p:=fun m=>decide (m.message.stream=1)) (by simp [hm0]);refine ⟨i,s.queue[i],((s.queue.drop (i+1)).filter fun m=>decide (m.message.stream=0))++(s.queue.filter fun m=>decide (m.message.stream=1)),?_,hm,by rw [ho,f1,zy43],by rw [ho,f2,g1],fun m' hm'=>by rw [ho,f3 m' (by simp [hm',hm0]),g2 m' (by simp [hm',hm0]),zy43]⟩;rw [hto,Sch.zer,zy1 (show Sch.first s.queue ((0:Nat):Int)>=0 from c1)];show zbs (fun m:zae=>m.message.stream==0) 0 s.queue=_;rw [e];omega
   . have hno:∀ x∈s.queue,(x.message.stream==0)=false:=Sch.yoy (p:=fun m:zae=>m.message.stream==0) (k:=0) (l:=s.queue) (by show Sch.first s.queue 0<0;omega)
     have hall:∀ q:List zae,(∀ x∈q,x.message.stream=1)->zmc s.config.turns q=q:=fun q hq1=>by
      rw [ho,zy97.2 fun x hx=>by simp [hq1 x hx],zy88.2 fun x hx=>by simp [hq1 x hx]];rfl
     have h1:∀ x∈s.queue,x.message.stream=1:=fun x hx=>(hst x hx).resolve_left fun e=>by have:=hno x hx;simp [e] at this
     cases hqq:s.queue with
     | nil=>exact absurd hqq hq
     | cons m L =>
      rw [hqq] at h1;refine ⟨0,m,L,?_,rfl,hall _ h1,hall L fun x hx=>h1 x zz28,fun m' hm'=>hall (m'::L) fun x hx=>?_⟩
      . rw [hto,Sch.zer,zy0 (show ¬ Sch.first s.queue ((0:Nat):Int)>=0 from c1),Sch.zer,hqq]
        have e1:Sch.first (m::L) ((0+1:Nat):Int)=0:=by
         show zbs (fun x:zae=>x.message.stream==1) 0 (m::L)=0;rw [zbs,zy1 (by simp [h1 m (by simp)])];rfl
        rw [e1,zy1 (by decide)];rfl
      . rcases zy18.1 hx with rfl | hx
        . rw [hm'];exact h1 m zz3
        . exact h1 x zz28
theorem yxw (h:SI N s) (hc:QC E s) {x:CH} {r:List CH} (hr:rest s=x::r) (hx:x.mid<60000):∃ (k:Nat) (m:zae),zdh s=k/\s.queue[k]?=some m/\many s m=x.data.length /\
 cut s m (many s m)=⟨1,tag s.next,x.stream,x.mid,x.part,x.last,true,x.data,[],0,[]⟩/\rest (zrj s k m)=r/\QC E (zrj s k m):=by
 have hq:s.queue≠[]:=by
  intro e;unfold rest zmc at hr;rw [e] at hr;split at hr<;>cases hr
 obtain ⟨k,m,L,h1,h2,h3,h4,h5⟩:=yjt h hc hq;have hm:=zy5 h2;have q:=h.queue m hm;have q0:=q.st0;have q1:=q.left;have q2:=q.parts;have q3:=q.sent;have q4:=q.len2;rw [hc.part] at q3;have hord:=hc.ord m hm;have hmid:xfu s.mids m=zbt s m:=by
  unfold xfu zbt zhb;rw [hord];show _=if m.mid<0 then s.mids[(m.message.stream+0).toNat]?.getD 0 else m.mid
  rw [Int.add_zero]
 have hmids:zyw s.mids m=zcz s m:=by
  unfold zyw zcz zhb;rw [hord];show _=if m.mid<0 then setAt s.mids (m.message.stream+0).toNat fun n=>W (n+1) else s.mids
  rw [Int.add_zero]
 have hpos:0<=zbt s m:=by
  unfold zbt;split
  . cases hz:s.mids[zhb s m]? with
    | none=>exact zy80 _
    | some z=>exact hc.mids z (zy5 hz)
  . omega
 have hr1:zif m.message.stream.toNat (zbt s m).toNat m.message.data.length m.parts.toNat (m.message.data.drop m.sent.toNat)++zje (zcz s m) L=x::r:=by
  rw [<- hmid,<- hmids];unfold rest at hr;rw [h3] at hr;exact hr
 have hE:zgo (zcz s m) L=E:=by
  have:=hc.ends;rw [h3,zgo,hmids] at this;exact this
 have hdl:(m.message.data.drop m.sent.toNat).length=m.message.data.length-m.sent.toNat:=zy37 ..;obtain ⟨F,hF⟩:∃ F,m.message.data.length=F+1:=⟨m.message.data.length-1,by omega⟩
 have hWp:W (m.parts+1)=m.parts+1:=zbg zz0 zz0;have hmc:∀ n∈zcz s m,0<=n:=by
  intro n hn;unfold zcz at hn;by_cases hneg:m.mid<0
  . rw [zy1 hneg] at hn
    unfold setAt at hn;split at hn
    . exact hc.mids n hn
    . rename_i y hy
      rcases zy45 hn with hn | rfl
      . exact hc.mids n hn
      . have hy0:=hc.mids y (zy5 hy)
        have hym:zbt s m=y:=by unfold zbt;rw [zy1 hneg,hy];rfl
        have hx2:x.mid=(zbt s m).toNat:=by
         have:=hr1;rw [hF,zif] at this;split at this
         . have:=(List.cons.inj this).1
           rw [<- this]
         . have:=(List.cons.inj this).1
           rw [<- this]
        rw [hym] at hx2;show 0<=W (y+1);rw [zbg (by omega) (by omega)];omega
  . rw [zy0 hneg] at hn
    exact hc.mids n hn
 rw [hF] at hr1;rw [zif] at hr1;by_cases c1:(m.message.data.drop m.sent.toNat).length<=4
 . rw [zy1 c1] at hr1
   obtain ⟨e1,e2⟩:=List.cons.inj hr1;have e2:zje (zcz s m) L=r:=e2;have hmany:many s m=(m.message.data.length:Int)-m.sent:=by unfold many;rw [hc.part];split<;>omega
   have hover:m.sent+many s m=m.message.data.length:=by omega
   have hdat:(m.message.data.drop m.sent.toNat).take (many s m).toNat=m.message.data.drop m.sent.toNat:=zy34 zz0;refine ⟨k,m,h1,h2,?_,?_,?_,?_⟩
   . rw [<- e1];show many s m=((m.message.data.drop m.sent.toNat).length:Int);omega
   . rw [<- e1]
     have hxm:(zbt s m).toNat<60000:=by rw [<- e1] at hx;exact hx
     unfold cut;rw [zy12 hover,hord,hdat];have t1:tag (zbt s m)=(((zbt s m).toNat:Nat):Int):=by unfold tag;omega
     have t2:m.message.stream=((m.message.stream.toNat:Nat):Int):=by omega
     have t3:m.parts=((m.parts.toNat:Nat):Int):=by omega
     rw [t1,<- t2,<- t3]
   . have:(zrj s k m).queue=s.queue.eraseIdx k:=zy1 (zy12 hover)
     show zje (zcz s m) (zmc s.config.turns (zrj s k m).queue)=r;rw [this,h4];exact e2
   . refine ⟨hc.turns,hc.part,fun z hz=>?_,hmc,by
      show zgo (zcz s m) (zmc s.config.turns (zrj s k m).queue)=E;rw [show (zrj s k m).queue=s.queue.eraseIdx k from zy1 (zy12 hover),h4];exact hE⟩
     rw [show (zrj s k m).queue=s.queue.eraseIdx k from zy1 (zy12 hover)] at hz;exact hc.ord z (zy65 hz)
 . rw [zy0 c1] at hr1
   obtain ⟨e1,e2⟩:=List.cons.inj hr1;have hmany:many s m=4:=by unfold many;rw [hc.part];split<;>omega
   have hover:¬ m.sent+many s m=m.message.data.length:=by omega
   refine ⟨k,m,h1,h2,?_,?_,?_,?_⟩
   . rw [<- e1,hmany];show (4:Int)=(((m.message.data.drop m.sent.toNat).take 4).length:Int);rw [zy55];omega
   . rw [<- e1]
     have hxm:(zbt s m).toNat<60000:=by rw [<- e1] at hx;exact hx
     unfold cut;rw [zy20 hover,hord,hmany];have t1:tag (zbt s m)=(((zbt s m).toNat:Nat):Int):=by unfold tag;omega
     have t2:m.message.stream=((m.message.stream.toNat:Nat):Int):=by omega
     have t3:m.parts=((m.parts.toNat:Nat):Int):=by omega
     rw [t1,<- t2,<- t3];rfl
   . have:(zrj s k m).queue=s.queue.set k {m with mid:=zbt s m,sent:=m.sent+many s m,parts:=W (m.parts+1)}:=zy0 (by simpa using hover)
     show zje (zcz s m) (zmc s.config.turns (zrj s k m).queue)=r;rw [this,h5 {m with mid:=zbt s m,sent:=m.sent+many s m,parts:=W (m.parts+1)} rfl,zje];have e3:xfu (zcz s m) {m with mid:=zbt s m,sent:=m.sent+many s m,parts:=W (m.parts+1)}=zbt s m:=zy0 (by show ¬ zbt s m<0;omega);have e4:zyw (zcz s m) {m with mid:=zbt s m,sent:=m.sent+many s m,parts:=W (m.parts+1)}=zcz s m:=zy0 (by show ¬ zbt s m<0;omega);rw [e3,e4,<- e2];congr 1;show zif m.message.stream.toNat (zbt s m).toNat m.message.data.length (W (m.parts+1)).toNat (m.message.data.drop (m.sent+many s m).toNat)=zif m.message.stream.toNat (zbt s m).toNat F (m.parts.toNat+1) ((m.message.data.drop m.sent.toNat).drop 4);rw [zy117,hWp,show (m.parts+1).toNat=m.parts.toNat+1 by omega,hmany,show (m.sent+4).toNat=m.sent.toNat+4 by omega];exact yff _ _ _ _ zz19 zz19 zz19
   . refine ⟨hc.turns,hc.part,fun z hz=>?_,hmc,by
      show zgo (zcz s m) (zmc s.config.turns (zrj s k m).queue)=E;rw [show (zrj s k m).queue=s.queue.set k {m with mid:=zbt s m,sent:=m.sent+many s m,parts:=W (m.parts+1)} from zy0 (by simpa using hover),h5 {m with mid:=zbt s m,sent:=m.sent+many s m,parts:=W (m.parts+1)} rfl,zgo,show zyw (zcz s m) {m with mid:=zbt s m,sent:=m.sent+many s m,parts:=W (m.parts+1)}=zcz s m from zy0 (by show ¬ zbt s m<0;omega)];exact hE⟩
     rw [show (zrj s k m).queue=s.queue.set k _ from zy0 (by simpa using hover)] at hz;rcases zy45 hz with hz | rfl
     . exact hc.ord z hz
     . exact hord
theorem yva {k mid n p:Nat} {d:List UInt8}:zif k mid (n+1) p d≠[]:=by
 rw [zif];split<;>simp
theorem zqj (h:SI N s) (hc:QC E s) (hr:rest s=[]):s.queue=[]:=by
 apply Classical.byContradiction;intro hq;obtain ⟨k,m,L,h1,h2,h3,h4,h5⟩:=yjt h hc hq;have q:=h.queue m (zy5 h2);have q1:=q.len1;unfold rest at hr;rw [h3,zje] at hr;obtain ⟨F,hF⟩:∃ F,m.message.data.length=F+1:=⟨m.message.data.length-1,by omega⟩
 rw [hF] at hr;exact yva (List.append_eq_nil_iff.1 hr).1
theorem xjf (hq:s.queue=[]):zdh s<0:=by
 unfold zdh Sch.next;rw [zy1 (by rw [hq];rfl)];decide
end
end Tp
namespace Tp
open Ser Snd
structure xpt (f:Int) (Cs:List CH) (act i:Nat) (x:zbr) (y:Nat×Nat):Prop where
 st:x.state=(y.2:Int)
 st3:y.2=1\/y.2=3\/y.2=4
 ch:y.2≠4->∃ c,Cs[i]?=some c/\x.chunk=c.mk' f i/\y.1=c.data.length
 gone:y.2=4->x.chunk.stream=0/\x.chunk.mid=0/\x.chunk.ordered=true/\y.1=0
 path:y.2=1\/(act=0/\y.2=3)->x.path=(act:Int)
noncomputable def pathOf (clock:Int) (g:GM):Path:=⟨g.win,g.slow,g.par,GM.zak g.out,g.errs,if g.al=0 then 0 else clock+g.al,g.wait⟩
structure xps (T:Int) (s:zab):Prop where
 queue:∀ m∈s.queue,m.message.tries=0/\0<=m.came/\m.came<=100000/\0<=m.message.life/\(m.message.life=0/\T=100000\/0<m.message.life/\m.came+m.message.life=T+1)
 out:∀ x∈s.out,s.fates[x.id.toNat]?=some 3\/(x.tries=0/\0<=x.came/\x.came<=100000/\0<=x.life/\(x.life=0/\T=100000\/0<x.life/\x.came+x.life=T+1))
structure Lim (g:GM):Prop where
 win:g.win<=200000
 slow:g.slow<=200000
 par:g.par<=400000
 wait:g.wait<=24
 wait1:1<=g.wait
 errs:g.errs<=2000
 al:g.al<=24
structure SR (E:List Int) (f T:Int) (P:Nat) (Cs:List CH) (s:zab) (g:GM):Prop where
 qc:QC E s
 pk:s.config.packet=60
 np:s.paths.length=P
 cum:s.cum=f-1+g.a
 len:s.out.length=g.out.length
 out:∀ (j:Nat) x y,s.out[j]?=some x->g.out[j]?=some y->xpt f Cs g.act (g.a+j) x y
 rest:rest s=Cs.drop (g.a+g.out.length)
 todo:g.todo=(Cs.drop (g.a+g.out.length)).map fun x=>x.data.length
 zeh:∀ x∈Cs,x.xgo
 path:s.paths[g.act]?=some (pathOf s.clock g)
 other:∀ (i:Nat) p,i≠g.act->s.paths[i]?=some p->p.zak=0/\p.zcm=0/\(i<g.act->3<p.errors)/\(g.act<i->p=Paths.new 4)
 errs:P=2->g.errs<=3
 fwd:s.forward=g.fwd
 room:280<=s.room
 clk0:0<=s.clock
 clk:s.clock<=100000
 small:T<=100000
 f0:0<=f
 f1:f<65536
 lim:Lim g
 due:xps T s
section
variable {E:List Int} {N:Nat} {f T:Int} {P:Nat} {Cs:List CH} {s:zab} {g:GM}
theorem SR.act (r:SR E f T P Cs s g):g.act<P:=by have:=Gh.zci r.path;rw [r.np] at this;exact this
theorem SR.p12 (r:SR E f T P Cs s g) (h:SI N s):P=1\/P=2:=by
 have hw:=zca h.cfg;have:=h.npaths;have:=r.np;omega
theorem yux {l:List Path} (h:l.length=1):Paths.zdr 0 l=0:=by
 match l,h with
 | [p],_ =>
  rw [Paths.zdr];split
  . rfl
  . rfl
theorem SR.choose (r:SR E f T P Cs s g) (h:SI N s):Snd.choose s=g.act:=by
 have ha:=r.act;have hp:=r.path;have hn:=r.np;unfold Snd.choose;rcases r.p12 h with h1 | h2
 . rw [yux (by omega)]
   show (0:Nat)=g.act;omega
 . have he:=r.errs h2
   have hl:s.paths.length=2:=by omega
   match hps:s.paths,hl with
   | [p,q],_ =>
    rcases (show g.act=0\/g.act=1 by omega) with h0 | h0
    . rw [h0,hps] at hp
      have hp:p=pathOf s.clock g:=by simpa using hp
      rw [Paths.zdr,zy1 (by rw [hp];show (g.errs:Int)<=3;omega),h0];rfl
    . rw [h0,hps] at hp
      have hp:q=pathOf s.clock g:=by simpa using hp
      have ho:=(r.other 0 p zz0 (by rw [hps];rfl)).2.2.1 zz0;rw [Paths.zdr,zy0 (by omega),Paths.zdr,zy1 (by rw [hp];show (g.errs:Int)<=3;omega),h0];rfl
theorem xfy {T clock came life:Int} (h0:0<=clock) (h1:clock<=T) (h2:T<=100000) (h:0<=came/\came<=100000/\0<=life/\(life=0/\T=100000\/0<life/\came+life=T+1)):old clock came life=false:=by
 unfold old;rw [zbg (by omega) (by omega)];obtain ⟨a,b,c,d⟩:=h;rcases d with d | d
 . rw [zy20 (by omega)];rfl
 . rw [Bool.and_eq_false_iff];right;exact zy20 zz0
theorem SR.expire (r:SR E f T P Cs s g) (hT:s.clock<=T):expire s=s:=by
 have h1:∀ q:List zae,(∀ m∈q,m∈s.queue)->q.foldl zhw s=s:=by
  intro q
  induction q with
  | nil=>intro _;rfl
  | cons m q ih =>
   intro hq;rw [zy35];have hm:=r.due.queue m (hq m zz3);rw [show zhw s m=s by unfold zhw;rw [xfy r.clk0 hT r.small ⟨hm.2.1,hm.2.2.1,hm.2.2.2.1,hm.2.2.2.2⟩];rfl];exact ih fun x hx=>hq x zz28
 have h2:∀ q:List zbr,(∀ m∈q,m∈s.out)->q.foldl zgt s=s:=by
  intro q
  induction q with
  | nil=>intro _;rfl
  | cons x q ih =>
   intro hq;rw [zy35];have hd:yru s x=false:=by
    unfold yru;rcases r.due.out x (hq x zz3) with h3 | h3
    . rw [h3];rfl
    . rw [xfy r.clk0 hT r.small ⟨h3.2.1,h3.2.2.1,h3.2.2.2.1,h3.2.2.2.2⟩,h3.1]
      simp
   rw [show zgt s x=s by unfold zgt;rw [hd];rfl];exact ih fun x hx=>hq x zz28
 unfold Snd.expire;rw [h1 s.queue fun _ h=>h];exact h2 s.out fun _ h=>h
theorem yan (h:SI N s) (r:SR E f T P Cs s g):∀ (l:List zbr) (gl:List (Nat×Nat)) (k:Nat) (sk:List zgg),s.out.drop k=l->g.out.drop k=gl->k<=s.out.length->(sk=[]\/sk=[⟨0,0,true⟩]) ->
 Sco.zdp (s.cum+k) sk l=(s.cum+k+GM.lead gl,if GM.lead gl=0 then sk else [⟨0,0,true⟩])
 | [],gl,k,sk,hl,hg,hk,_=>by
  have:gl=[]:=by rw [<- hg];exact zy36 (by have:=r.len;have:=congrArg List.length hl;rw [zy37,zy16] at this;omega)
  subst this;show (s.cum+(k:Int),sk)=(s.cum+(k:Int)+((0:Nat):Int),if (0:Nat)=0 then sk else _);rw [zy1 rfl];simp
 | x::l,gl,k,sk,hl,hg,hk,hsk=>by
  have hlen:=r.len;have hx:s.out[k]?=some x:=by have:=congrArg (fun z=>z[0]?) hl;simpa using this
  have hkl:=Gh.zci hx;obtain ⟨y,hy⟩:∃ y,g.out[k]?=some y:=⟨_,zy2 zz0⟩
  have hg2:gl=y::g.out.drop (k+1):=by
   rw [<- hg,zy31 (by omega)];rw [zy2 (by omega)] at hy;cases hy;rfl
  have hl2:s.out.drop (k+1)=l:=by
   rw [zy31 hkl] at hl;exact (List.cons.inj hl).2
  have ho:=r.out k x y hx hy;have hn:=h.nums k x hx;have hc:=h.cum;have hcap:=h.few;have hnx:=h.nextle;have hnx2:=h.next;have hw:=zca h.cfg;have hW:W (s.cum+k+1)=s.cum+k+1:=zbg zz0 zz0;rw [Sco.zdp,hg2,hW];by_cases c4:y.2=4
  . have e4:x.state=4:=by rw [ho.st,c4];rfl
    obtain ⟨g1,g2,g3,g4⟩:=ho.gone c4;have zyv:Sco.skip x.chunk sk=[⟨0,0,true⟩]:=by
     rcases hsk with rfl | rfl
     . rw [Sco.skip,g1,g2,g3]
     . rw [Sco.skip,zy1 (by unfold Sco.zkf;rw [g1,g3];rfl),g2]
    rw [zy0 (by rintro (h1 | h1);omega;exact h1.1 e4),zy1 e4,zyv,zy0 (by simp),GM.xda c4];have ih:=yan h r l (g.out.drop (k+1)) (k+1) [⟨0,0,true⟩] hl2 rfl hkl (.inr rfl);rw [show x.number=s.cum+((k+1:Nat):Int) by omega,ih,zy0 (show ¬ GM.lead (g.out.drop (k+1))+1=0 by omega)];congr 1
    . omega
    . split<;>rfl
  . have e4:x.state≠4:=by rw [ho.st];omega
    have e2:x.state≠2:=by rw [ho.st];have:=ho.st3;omega
    rw [zy1 (.inr ⟨e4,e2⟩),GM.xix c4,zy1 rfl];simp
theorem SR.zeg (h:SI N s) (r:SR E f T P Cs s g):Sco.zeg s.out s.cum=(s.cum+GM.lead g.out,if GM.lead g.out=0 then [] else [⟨0,0,true⟩]):=by
 have:=yan h r s.out g.out 0 [] rfl rfl (zy92 _) (.inl rfl);rw [show s.cum+((0:Nat):Int)=s.cum by omega] at this;exact this
def xga (P act:Nat) (l:List Chunk):List (List Chunk):=(List.replicate P []).set act l
theorem ydi {P act:Nat} {l:List Chunk} {c:Chunk} (h:act<P):setAt (xga P act l) act (·++[c])=xga P act (l++[c]):=by
 unfold setAt xga;rw [zy17 (by simpa using h)];simp
structure PR (E:List Int) (f T:Int) (P:Nat) (Cs:List CH) (p:zfs) (g:GM) (em:List (Nat×Nat)):Prop where
 sr:SR E f T P Cs p.s g
 po:p.out=xga P g.act (chs f Cs em)
 em:∀ y∈em,zog Cs y/\(y.1 % 2=0->y.1 / 2<g.a+g.out.length)
theorem zky {α:Type} {l:List α} {k:Nat} {x:α} {F:α->α} (h:l[k]?=some x):setAt l k F=l.set k (F x):=by
 unfold setAt;rw [h]
theorem SR.wait (r:SR E f T P Cs s g):W (s.clock+g.wait)=s.clock+g.wait:=by
 have:=r.lim.wait;have:=r.clk0;have:=r.clk;have:=r.small;exact zbg zz0 zz0
theorem yks {p:zfs} (h:SI N p.s) (r:PR E f T P Cs p g []):PR E f T P Cs (forward p) (GM.zio g).1 (GM.zio g).2:=by
 have hpt:=r.sr.zeg h;have hch:=r.sr.choose h;unfold forward;rw [hpt,hch];unfold GM.zio;by_cases c1:g.fwd=false
 . rw [zy1 (.inl (by rw [r.sr.fwd];exact c1)),c1]
   exact r
 have c1:g.fwd=true:=by cases hb:g.fwd with | true=>rfl | false=>exact absurd hb c1
 by_cases c2:GM.lead g.out=0
 . rw [zy1 (.inr (by rw [c2];simp)),GM.zgf c2,c1]
   exact r
 . rw [zy0 (by rintro (h1 | h1);rw [r.sr.fwd,c1] at h1;cases h1;dsimp only at h1;omega),GM.zie c2,c1,zy0 c2]
   have hsr:=r.sr;have hp:=hsr.path;show PR E f T P Cs ⟨{p.s with forward:=false,paths:=setAt p.s.paths g.act (zcm p.s)},setAt p.out g.act (·++[⟨3,tag (p.s.cum+GM.lead g.out),0,0,0,false,false,[],[],0,[⟨0,0,true⟩]⟩])⟩ {g with fwd:=false,al:=bif Nat.beq g.al 0 then g.wait else g.al} [(2*(g.a+GM.lead g.out)+1,8)];have hal:zcm p.s (pathOf p.s.clock g)=pathOf p.s.clock {g with fwd:=false,al:=bif Nat.beq g.al 0 then g.wait else g.al}:=by
    unfold zcm pathOf;have hw:=hsr.lim.wait1;by_cases c3:g.al=0
    . dsimp only
      rw [zy1 c3,zy1 rfl,GM.zgf c3];show (⟨g.win,g.slow,g.par,GM.zak g.out,g.errs,W (p.s.clock+g.wait),g.wait⟩:Path)=⟨_,_,_,_,_,if g.wait=0 then 0 else p.s.clock+g.wait,_⟩;rw [hsr.wait,zy0 (by omega)]
    . dsimp only
      rw [zy0 c3,GM.zie c3];have:=hsr.clk0;rw [zy0 (by omega)];show _=(⟨g.win,g.slow,g.par,GM.zak g.out,g.errs,if g.al=0 then 0 else p.s.clock+g.al,g.wait⟩:Path);rw [zy0 c3]
   refine ⟨⟨⟨hsr.qc.turns,hsr.qc.part,hsr.qc.ord,hsr.qc.mids,hsr.qc.ends⟩,hsr.pk,by show (setAt _ _ _).length=P;rw [zfv];exact hsr.np,hsr.cum,hsr.len,hsr.out,hsr.rest,hsr.todo,hsr.zeh,?_,fun i q hi hq=>?_,hsr.errs,rfl,hsr.room,hsr.clk0,hsr.clk,hsr.small,hsr.f0,hsr.f1,⟨hsr.lim.win,hsr.lim.slow,hsr.lim.par,hsr.lim.wait,hsr.lim.wait1,hsr.lim.errs,?_⟩,⟨hsr.due.queue,hsr.due.out⟩⟩,?_,fun y hy=>?_⟩
   . show (setAt p.s.paths g.act (zcm p.s))[g.act]?=_
     rw [zky hp,zy17 (Gh.zci hp),hal]
   . have hq:(setAt p.s.paths g.act (zcm p.s))[i]?=some q:=hq
     rw [zky hp,zy29 (fun e=>hi e.symm)] at hq;exact hsr.other i q hi hq
   . show (bif Nat.beq g.al 0 then g.wait else g.al)<=24
     have:=hsr.lim.wait;have:=hsr.lim.al;cases Nat.beq g.al 0<;>(dsimp only [cond];omega)
   . show setAt p.out g.act _=_
     rw [r.po,ydi hsr.act];congr 1;show []++[_]=chs f Cs [(2*(g.a+GM.lead g.out)+1,8)];unfold chs;rw [zy27,zy87,xbg];unfold zwj;rw [hsr.cum,show f-1+(g.a:Int)+GM.lead g.out=f-1+((g.a+GM.lead g.out:Nat):Int) by omega];rfl
   . rw [zy7] at hy
     subst hy;exact ⟨.inl ⟨by omega,rfl⟩,fun h=>by dsimp only at h;omega⟩
end
end Tp
namespace Tp
open Ser Snd
section
variable {E:List Int} {N:Nat} {f T:Int} {P:Nat} {Cs:List CH} {s:zab} {g:GM}
theorem zro:∀ {l:List (Nat×Nat)} {i n st:Nat},l[i]?=some (n,st)->st≠1->GM.zak (l.set i (n,1))=GM.zak l+n
 | [],i,n,st,h,_=>by cases h
 | x::l,0,n,st,h,hs=>by
  have:x=(n,st):=by simpa using h
  subst this;rw [zy134,GM.zdv,GM.zdv,zy1 rfl,zy0 hs];omega
 | x::l,i+1,n,st,h,hs=>by
  rw [zy121,GM.zdv,GM.zdv,zro (by simpa using h) hs];omega
theorem yft:∀ {l:List (Nat×Nat)},(∀ y∈l,y.2=1->y.1<=4)->GM.zak l<=4*l.length
 | [],_=>zy19 _
 | x::l,h=>by
  have:=yft (l:=l) fun y hy=>h y zz40
  have hx:=h x zz3;rw [GM.zdv,zy8];split
  . rename_i c;have:=hx c;omega
  . omega
theorem SR.fl (h:SI N s) (r:SR E f T P Cs s g):GM.zak g.out<=4*g.out.length/\g.out.length<=61*2 ^ 20:=by
 refine ⟨yft fun y hy h1=>?_,?_⟩
 . obtain ⟨j,hj⟩:=zy33 hy
   obtain ⟨x,hx⟩:∃ x,s.out[j]?=some x:=⟨_,zy2 (by have:=Gh.zci hj;have:=r.len;omega)⟩
   obtain ⟨c,c1,c2,c3⟩:=(r.out j x y hx hj).ch zz0;have:=(r.zeh c (zy5 c1)).d4;omega
 . have:=h.len
   have:=h.few;have:=r.len;omega
theorem xic {p:zfs} {em:List (Nat×Nat)} (h:SI N p.s) (r:PR E f T P Cs p g em) {i n:Nat} (hi:g.out[i]?=some (n,3)):PR E f T P Cs (fly p i g.act) {g with out:=g.out.set i (n,1)} (em++[(2*(g.a+i),9+n)]):=by
 have hsr:=r.sr;have hlen:=hsr.len;have hil:=Gh.zci hi;obtain ⟨x,hx⟩:∃ x,p.s.out[i]?=some x:=⟨_,zy2 zz0⟩
 have ho:=hsr.out i x _ hx hi;obtain ⟨c,c1,c2,c3⟩:=ho.ch (show (3:Nat)≠4 by decide);have c3:n=c.data.length:=c3;have hp:=hsr.path;obtain ⟨hfl,hol⟩:=hsr.fl h;have hset:=zro hi zz5;have hcf:=(hsr.zeh c (zy5 c1)).d4;have hdl:x.chunk.data.length=n:=by rw [c2,c3];rfl
 unfold fly;rw [hx];dsimp only;have hpath:({pathOf p.s.clock g with zak:=W ((pathOf p.s.clock g).zak+x.chunk.data.length)}:Path)=pathOf p.s.clock {g with out:=g.out.set i (n,1)}:=by
  unfold pathOf;dsimp only;rw [hdl,hset,zbg (by omega) (by omega)];rfl
 refine ⟨⟨⟨hsr.qc.turns,hsr.qc.part,hsr.qc.ord,hsr.qc.mids,hsr.qc.ends⟩,hsr.pk,by show (setAt _ _ _).length=P;rw [zfv];exact hsr.np,hsr.cum,by show (List.set _ _ _).length=(List.set _ _ _).length;rw [zy25,zy25];exact hlen,fun j x' y' hx' hy'=>?_,by show rest p.s=_;rw [hsr.rest];congr 2;exact (zy25 ..).symm,by show g.todo=_;rw [hsr.todo];congr 3;exact (zy25 ..).symm,hsr.zeh,?_,fun j q hj hq=>?_,hsr.errs,hsr.fwd,hsr.room,hsr.clk0,hsr.clk,hsr.small,hsr.f0,hsr.f1,⟨hsr.lim.win,hsr.lim.slow,hsr.lim.par,hsr.lim.wait,hsr.lim.wait1,hsr.lim.errs,hsr.lim.al⟩,⟨hsr.due.queue,fun z hz=>?_⟩⟩,?_,fun y hy=>?_⟩
 . have hx':(p.s.out.set i (zuj x g.act))[j]?=some x':=hx'
   have hy':(g.out.set i (n,1))[j]?=some y':=hy';by_cases e:i=j
   . subst e
     rw [zy17 (by omega)] at hx' hy';cases hx';cases hy';exact ⟨rfl,.inl rfl,fun _=>⟨c,c1,c2,c3⟩,fun h4=>(by cases h4),fun _=>rfl⟩
   . rw [zy29 e] at hx' hy'
     exact hsr.out j x' y' hx' hy'
 . show (setAt p.s.paths g.act _)[g.act]?=_
   rw [zky hp,zy17 (Gh.zci hp),hpath]
 . have hq:(setAt p.s.paths g.act _)[j]?=some q:=hq
   rw [zky hp,zy29 (fun e=>hj e.symm)] at hq;exact hsr.other j q hj hq
 . have hz:z∈p.s.out.set i (zuj x g.act):=hz
   rcases zy45 hz with hz | rfl
   . exact hsr.due.out z hz
   . exact hsr.due.out x (zy5 hx)
 . show setAt p.out g.act (·++[x.chunk])=_
   rw [r.po,ydi hsr.act];congr 1;unfold chs;rw [zy40,zy27,zy87,yfa c1,c2]
 . show zog Cs y/\(y.1 % 2=0->y.1 / 2<g.a+(g.out.set i (n,1)).length)
   rw [zy25];rcases zy10.1 hy with hy | hy
   . exact r.em y hy
   . rw [zy7] at hy
     subst hy;refine ⟨.inr ⟨by omega,c,?_,hsr.zeh c (zy5 c1),by rw [c3]⟩,fun _=>by dsimp only;omega⟩;rw [show 2*(g.a+i) / 2=g.a+i by omega];exact c1
theorem zsc (r:SR E f T P Cs s g):opened s g.act=decide (GM.zak g.out<g.win):=by
 unfold opened;rw [r.path];show decide (((GM.zak g.out:Nat):Int)<((g.win:Nat):Int))=_;rw [zy128];omega
theorem zvd:∀ (l:List (Nat×Nat)) (k:Nat) {p:zfs} {g:GM} {em:List (Nat×Nat)},SI N p.s->PR E f T P Cs p g em->g.out.drop k=l->k<=g.out.length ->
 PR E f T P Cs ((List.range' k l.length).foldl (zct g.act) p) {g with out:=g.out.take k++(GM.again g.win (g.a+k) (GM.zak g.out) l).1} (em++(GM.again g.win (g.a+k) (GM.zak g.out) l).2.2)
 | [],k,p,g,em,h,r,hl,hk=>by
  have:k=g.out.length:=by have:=congrArg List.length hl;rw [zy37,zy16] at this;omega
  show PR E f T P Cs p {g with out:=g.out.take k++[]} (em++[]);rw [zy9,zy9,this,List.take_length];exact r
 | y::l,k,p,g,em,h,r,hl,hk=>by
  have hy:g.out[k]?=some y:=by have:=congrArg (fun z=>z[0]?) hl;simpa using this
  have hkl:=Gh.zci hy;have hl2:g.out.drop (k+1)=l:=by
   rw [zy31 hkl] at hl;exact (List.cons.inj hl).2
  obtain ⟨x,hx⟩:∃ x,p.s.out[k]?=some x:=⟨_,zy2 (by have:=r.sr.len;omega)⟩
  have hst:=(r.sr.out k x y hx hy).st;have hop:=zsc r.sr;rw [zy8,List.range'_succ,zy35,GM.zzc];by_cases c1:y.2=3/\GM.zak g.out<g.win
  . have e1:zct g.act p k=fly p k g.act:=by
     unfold zct;rw [hx];exact zy1 ⟨by rw [hst,c1.1];rfl,by rw [hop];exact zy12 c1.2⟩
    have hy3:g.out[k]?=some (y.1,3):=by rw [hy,<- c1.1]
    have r2:=xic h r hy3;have h2:SI N (fly p k g.act).s:=yvw h hx (by rw [hst,c1.1];decide) (by rw [r.sr.np];exact r.sr.act);have hset:=zro hy3 zz5;have ih:=zvd l (k+1) h2 r2 (by show (g.out.set k (y.1,1)).drop (k+1)=l;rw [List.drop_set_of_lt (by omega)];exact hl2) (by show k+1<=(g.out.set k (y.1,1)).length;rw [zy25];omega);rw [e1,zy1 c1];dsimp only at ih ⊢;rw [hset] at ih;have ht:(g.out.set k (y.1,1)).take (k+1)=g.out.take k++[(y.1,1)]:=by
     rw [List.take_add_one,List.take_set_of_le (zy19 k),zy17 hkl];rfl
    exact yy98
  . have e1:zct g.act p k=p:=by
     unfold zct;rw [hx];refine zy0 fun hc=>c1 ?_
     rw [hst,hop] at hc;exact ⟨by omega,zy39 hc.2⟩
    have ih:=zvd l (k+1) h r hl2 hkl;rw [e1,zy0 c1];dsimp only at ih ⊢;have ht:g.out.take (k+1)=g.out.take k++[y]:=by rw [List.take_add_one,hy];rfl
    exact yy98
theorem yrk {p:zfs} {em:List (Nat×Nat)} (h:SI N p.s) (r:PR E f T P Cs p g em):PR E f T P Cs (again p) (GM.ziv g).1 (em++(GM.ziv g).2):=by
 have:=zvd g.out 0 h r rfl (zy92 _);unfold again;rw [r.sr.choose h,List.range_eq_range',r.sr.len];exact this
end
end Tp
end Go.HL
