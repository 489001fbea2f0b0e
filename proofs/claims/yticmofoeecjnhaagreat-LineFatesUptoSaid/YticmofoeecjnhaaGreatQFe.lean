/- Walks, contracts and laws of the law's functions: part 5. No condition. -/
import Derived.Test.YticmofoeecjnhaaGreatQFd
open Go.Proofs
set_option maxHeartbeats 32000000
set_option maxRecDepth 100000
set_option linter.unusedSimpArgs false
theorem yy30 {P:Prop} (h:P:=by
 refine sD ?_
 (exact zby [(0,some 910),(1,some 911),(2,some 912),(3,some 913)])):P:=h
theorem yy70 {P:Prop} (h:P:=by
 try refine sG ?_
 (exact zby [(0,some 910),(1,some 911),(2,some 912),(3,some 913)])):P:=h
theorem yy32 {P:Prop} (h:P:=by
 refine ⟨by dsimp only;omega,by dsimp only;omega,by dsimp only;omega,u3,u5,fun s hs=>?_,by dsimp only;omega,?_,h9,fun t htt=>by have:=h10 t htt;dsimp only;omega,h11⟩
 . have:=h6 s (u4 s hs);dsimp only;omega
 . dsimp only
   rcases u6 with u6 | ⟨s,hs,u6⟩
   . omega
   . have:=h6 s hs;omega):P:=h
theorem yy11 {P:Prop} (h:P:=by
 exact zal [(0,some 20)] rfl rfl trivial rfl rfl ⟨⟨rfl,.inl ⟨20,rfl,rfl⟩⟩,trivial⟩):P:=h
theorem yy21 {P:Prop} (h:P:=by
 refine sD ?_;exact zal [(0,some 950)] rfl rfl trivial rfl rfl ⟨⟨rfl,.inl ⟨950,rfl,rfl⟩⟩,trivial⟩):P:=h
theorem yy57 {P:Prop} (h:P:=by
 (try refine sG ?_)
 refine sF ?_;refine hQ _ _ ?_;conv=>whnf
 exact ⟨⟨((A++[3],B),E),zan k1,k2,fun k=>by rw [k3,hsn,zy0 (fun h=>absurd h.1 (by decide))];rfl⟩,(zdi [(5,some 5),(901,some 901)]),by simp⟩):P:=h
namespace Go.HL
namespace Rcv
open Srt Jn Ser
theorem zut (r:Receiver) (k:Nat) (z:Int) (hz:z=k) (hf:xdc r k) :
 zao Tryz.prog 182 [.ptr 1000 0,i64 z] (lk .free (tkH r)) (.tup []) (lk .free (tkD (turns r k))):=by
 subst hz;exact yuc r k hf
structure yar (r:Receiver) (c:Chunk) (n:Int):Prop where
 kind:c.kind=1
 low:0<=c.stream
 high:c.stream<r.zbi.length
 zec:r.cum<n
 fresh:has r.zax n=false
 room:n=r.cum+1\/(tot r.pieces:Int)+c.data.length<=400
def put (r:Receiver) (c:Chunk):Receiver :=
 {r with pieces:=r.pieces++[⟨zdd r.cum c.tag,c⟩],cum:=(up (add r.zax (zdd r.cum c.tag)) r.cum).1,zax:=(up (add r.zax (zdd r.cum c.tag)) r.cum).2}
instance xfp (r:Receiver) (c:Chunk) (n:Int):Decidable (yar r c n) :=
 decidable_of_iff (c.kind=1/\0<=c.stream/\c.stream<r.zbi.length/\r.cum<n/\has r.zax n=false/\(n=r.cum+1\/(tot r.pieces:Int)+c.data.length<=400)) ⟨fun ⟨a,b,d,e,f,g⟩=>⟨a,b,d,e,f,g⟩,fun ⟨a,b,d,e,f,g⟩=>⟨a,b,d,e,f,g⟩⟩
def data (r:Receiver) (c:Chunk):Receiver:=if yar r c (zdd r.cum c.tag) then (if c.ordered then turns (put r c) c.stream.toNat else (dlv (put r c) c.stream c.mid false).1) else r
structure xfr (r:Receiver) (c:Chunk):Prop where
 fit:Fit r
 zfa:zfa r.zax
 hi:∀ s∈r.zax,s.hi<=2 ^ 39
 cum1:-(2 ^ 39)<=r.cum
 cum2:r.cum<=2 ^ 39
 zbi:∀ t∈r.zbi,-(2 ^ 59)<t/\t<2 ^ 59
 data:c.data.length<2 ^ 21
 more:tot r.pieces<2 ^ 21
 many:r.pieces.length<2 ^ 21
theorem ypg {l:List Span} {n M:Int} (h:Ser.zfa l) (h1:-9223372036854775808<=n) (h2:n<=9223372036854775807) (hl:∀ s∈l,s.hi<=M) (hn:n<=M):∀ s∈add l n,s.hi<=M:=by
 obtain ⟨r1,r2⟩:=zxo h h1 h2;intro s hs;have h3:=(zik r1 s hs).1;have h4:has (add l n) s.hi=true:=zlc.2 ⟨s,hs,h3,zy91 _⟩;rw [r2,zy75] at h4;rcases h4 with h4 | h4
 . obtain ⟨t,ht,_,h5⟩:=zlc.1 h4
   have:=hl t ht;omega
 . have:s.hi=n:=by simpa using h4
   omega
theorem yie (l:List Span) (n:Int):(add l n).length<=l.length+1:=by
 unfold add;split
 . omega
 . have h1:(zvv n (below l n)).1.length<=(below l n).length:=by
    unfold zvv;split
    . split
      . simp
      . exact zy25 _
    . exact zy25 _
   have h2:(zrv n (zec l n)).2.length<=(zec l n).length:=by
    cases zec l n with
    | nil=>exact zy25 _
    | cons t r=>simp only [zrv];split<;>simp
   have h3:l.length=(below l n).length+(zec l n).length:=by
    conv=>lhs;rw [split l n]
    exact zy8
   simp only [zy8,zy6];omega
theorem ytl (r:Receiver) (c:Chunk) (hf:xfr r c):zao Tryz.prog 152 [r.hv,c.hv] zae (xfm (data r c) 0 1 2 3) (lk .free (yxg (data r c) 0 1 2 3 [])):=by
 obtain ⟨h1,h2,h3,h4,h5,h6,h7,h8,h9⟩:=hf;obtain ⟨n1,n2,n3⟩:=zlh (a:=r.cum) (t:=c.tag) zz0 zz0;generalize hD:data r c=D;refine zam mixed Tryz.func152 zz5 [] (fun _=>.inl rfl) ?_;(conv=>whnf)
 (refine zar [(0,910),(1,911),(2,912),(3,913)]  ?_;(conv=>whnf);refine dO (zcy r h1) ?_)
 (refine cL ?_;refine dL (zjq r.cum c.tag) ?_)
 have no:¬ yar r c (zdd r.cum c.tag)->D=r:=fun h=>by rw [<- hD,data,zy0 h]
 by_cases c1:c.kind=1
 case neg =>
  obtain rfl:=no fun h=>c1 h.1
  refine zai zz50 ?_;conv=>whnf
  exact yy30
 refine zaf (by simp [c1]) (zw ?_);by_cases c2:c.stream<0
 . obtain rfl:=no fun h=>by have:=h.2;omega
   refine zai zz45 ?_;conv=>whnf
   exact yy30
 refine zaf zz45 (zw ?_);by_cases c3:c.stream>=r.zbi.length
 . obtain rfl:=no fun h=>by have:=h.3;omega
   refine zai (by simpa using c3) (zw ?_);exact yy30
 refine zaf (by simpa using c3) (zw ?_);by_cases c4:zdd r.cum c.tag<=r.cum
 . obtain rfl:=no fun h=>by have:=h.4;omega
   refine zai (by simpa using c4) (zw ?_);exact yy30
 refine zaf (by simpa using c4) (zw ?_)
 (refine cL ?_;refine dL (ylq r.zax (zdd r.cum c.tag) (by have:=h1.zax;omega)) ?_)
 cases c5:has r.zax (zdd r.cum c.tag) with
 | true =>
  obtain rfl:=no fun h=>by have:=h.5;rw [c5] at this;cases this
  (conv=>whnf);exact yy30
 | false =>
 (conv=>whnf);refine sF ?_;have g1:=h1.zax;have g2:=h1.log;have rest:yar r c (zdd r.cum c.tag)->D=if c.ordered then turns (put r c) c.stream.toNat else (dlv (put r c) c.stream c.mid false).1:=fun h=>by rw [<- hD,data,zy1 h]
 have xcs:tot (put r c).pieces=tot r.pieces+c.data.length:=by show tot (r.pieces++[_])=_;rw [znn,zeb];rfl
 have hpl:(put r c).pieces.length=r.pieces.length+1:=by show (r.pieces++[_]).length=_;simp
 have hadd:=ypg (n:=zdd r.cum c.tag) (M:=1099511627776) h2 zz0 zz0 (fun s hs=>by have:=h3 s hs;omega) zz0;have hal:=yie r.zax (zdd r.cum c.tag);by_cases c6:zdd r.cum c.tag=r.cum+1
 case' pos =>
  have ok:yar r c (zdd r.cum c.tag):=⟨c1,by omega,by omega,by omega,c5,.inl c6⟩
  refine zaf (by simpa using c6) ?_;conv=>whnf
  ((refine zbg ?_ ?_;(· kernel_rfl);conv=>whnf);try refine sG ?_)
 case' neg =>
  refine zai (by simpa using c6) (zw ?_)
  (refine cL ?_;refine dL (yen r zz0 zz0) ?_)
  refine sF ?_;by_cases c7:(tot r.pieces:Int)+c.data.length>400
  case pos =>
   obtain rfl:=no fun h=>by have:=h.6;omega
   refine sD ?_;refine zai (by simpa using c7) (zw ?_);exact yy70
  have ok:yar r c (zdd r.cum c.tag):=⟨c1,by omega,by omega,by omega,c5,.inr zz0⟩
  refine sD ?_;refine zaf (by simpa using c7) (zw ?_)
  try refine sG ?_
 all_goals (
  have rest:=rest ok
  (refine zar [(0,66)]  ?_;(conv=>whnf);refine dO (Cl.zcq c.data zz0) ?_)
  refine zaa (c:=((r.pieces.map zaw.row).length+1)*136<=140737488355328) zz3 (zw ?_);refine sD ?_
  (refine zar [(0,88)]  ?_;(conv=>whnf);refine dO (yxo r.zax (zdd r.cum c.tag) h2 zz0 zz0 zz0) ?_)
  (refine zar [(0,92)]  ?_;(conv=>whnf);refine dO (yud (add r.zax (zdd r.cum c.tag)) r.cum hadd zz0 zz0 zz0) ?_)
  refine sD ?_;obtain ⟨k,hk⟩:∃ k:Nat,c.stream=k:=⟨c.stream.toNat,by omega⟩
  have hkl:k<r.zbi.length:=by omega
  have htk:(put r c).zbi[k]?.getD 0=r.zbi[k]:=by show r.zbi[k]?.getD 0=_;rw [zy2 hkl];rfl
  have htb:=h6 _ (zy72 hkl);refine zah (fun ho=>?_) (fun ho=>?_)
  . rw [zy1 ho,show c.stream.toNat=k by omega] at rest
    subst rest;(conv=>whnf)
    (refine zac [] [(1000,10),(1001,92),(1002,78),(1003,912),(1004,913)] [(0,920),(1,921),(2,922),(3,923)] ?_;(conv=>whnf);refine dG (zut (put r c) k _ hk ⟨by omega,by omega,by show r.log.length+_<_;omega,hkl,by rw [htk];omega,by rw [htk];omega⟩) ?_ ⟨rfl,rfl,rfl,⟨zz1,⟨zz1,⟨⟨rfl,_,rfl,.inl ⟨rfl,zca (f:=zaw.row) (x:=⟨zdd r.cum c.tag,c⟩) rfl rfl⟩⟩,⟨zz1,⟨zz1,trivial⟩⟩⟩⟩⟩,⟨⟨rfl,rfl⟩,⟨⟨rfl,rfl⟩,⟨⟨rfl,rfl⟩,⟨⟨rfl,rfl⟩,trivial⟩⟩⟩⟩,rfl,rfl,rfl⟩)
    (exact zby [(0,some 920),(1,some 921),(2,some 922),(3,some 923)])
  . rw [zy0 (by rw [ho];decide)] at rest
    subst rest;(conv=>whnf)
    (refine zac [] [(1000,10),(1001,92),(1002,78),(1003,912),(1004,913)] [(0,920),(1,921),(2,922),(3,923)] ?_;(conv=>whnf);refine dG (zlm (put r c) c.stream c.mid false zz0 zz0 (by show r.log.length<_;omega)) ?_ ⟨rfl,rfl,rfl,⟨zz1,⟨zz1,⟨⟨rfl,_,rfl,.inl ⟨rfl,zca (f:=zaw.row) (x:=⟨zdd r.cum c.tag,c⟩) rfl rfl⟩⟩,⟨zz1,⟨zz1,trivial⟩⟩⟩⟩⟩,⟨⟨rfl,rfl⟩,⟨⟨rfl,rfl⟩,⟨⟨rfl,rfl⟩,⟨⟨rfl,rfl⟩,trivial⟩⟩⟩⟩,rfl,rfl,rfl⟩)
    (exact zby [(0,some 920),(1,some 921),(2,some 922),(3,some 923)]))
def shift (c:Int) (s:Span):Span:=⟨s.lo-c,s.hi-c⟩
def zmp (r:Receiver):Chunk:=⟨2,tag r.cum,0,0,0,false,false,[],(r.zax.take 6).map (shift r.cum),(if 0>400-(tot r.pieces:Int) then 0 else 400-(tot r.pieces:Int)),[]⟩
theorem yor {α:Type} (A:List α) (x:α) (f:α->α):((A++[x]).take 6).map f=if A.length<6 then (A.take 6).map f++[f x] else (A.take 6).map f:=by
 split
 . rename_i h
   rw [zy32 (by simp;omega),zy32 (by omega)];simp
 . rename_i h
   rw [zy78 (by omega)]
abbrev xex (r:Receiver) (v:HV):List HV:=[i64 2,i64 (zmp r).tag,i64 0,i64 0,i64 0,zbo false,zbo false,zgc,v,i64 (zmp r).room,zgc]
theorem ytv (r:Receiver) (h1:r.zax.length<2 ^ 40) (h2:r.pieces.length<2 ^ 40) (h3:tot r.pieces<2 ^ 60) (hc:-(2 ^ 60)<=r.cum) (hc2:r.cum<=2 ^ 60) (hsp:∀ s∈r.zax,-(2 ^ 61)<=s.lo/\s.lo<=2 ^ 61/\-(2 ^ 61)<=s.hi/\s.hi<=2 ^ 61) :
 zao Tryz.prog 154 [r.hv] zae (.agg (xex r (.own 0))) (lk .free [(0,xet (zmp r).zax)]):=by
 refine zam mixed Tryz.func154 zz5 [] (fun _=>.inl rfl) ?_;(conv=>whnf)
 (refine cL ?_;refine dL (zct r.cum) ?_)
 (refine cL ?_;refine dL (yen r zz0 zz0) ?_)
 refine sF ?_;refine sD ?_;refine ⟨{x:List Span×List Span // r.zax=x.1++x.2},fun | ⟨(A,B),_⟩=>hs 43 [(1,.ptr 1 0),(2,.ptr 2 0),(3,.ptr 3 0),(15,zax r.zax),(16,i64 r.zax.length),(17,i64 A.length)] [(1,.live (.cells 37 (yxh r (zax r.zax) (pieces r.pieces) (.p (.sl 1 (r.zbi.map fun n=>[pi n]))) (.p (.sl 4 (r.log.map zbw.row)))))),(2,.live (.cells 61 [i64 0,i64 0,i64 0,i64 0,i64 0,zbo false,zbo false,zgc,zgc,i64 0,zgc])),(3,.live (.cells 61 (xex r (.own 900)))),(900,xet ((A.take 6).map (shift r.cum)))],fun x=>x.1.2.length,⟨([],r.zax),rfl⟩,?_,?_⟩
 . exact (zdi [(1,some 1),(2,some 2),(3,some 3),(900,none)])
 rintro ⟨⟨A,B⟩,h⟩;dsimp only at h;have hl:r.zax.length=A.length+B.length:=by rw [h];simp
 (conv=>whnf);cases B with
 | cons p B =>
  have hp:=hsp p zz59;rw [zy6] at hl;have hq:((A.take 6).map (shift r.cum)).length=min 6 A.length:=by simp
  refine sT ?_;refine zak h rfl (zw ?_);have hsn:=yor A p (shift r.cum);by_cases c:A.length<6
  . rw [zy1 c] at hsn
    refine sT ?_;refine sF ?_;refine sF ?_;refine zaa (c:=((((A.take 6).map (shift r.cum)).map Span.row).length+1)*16<=140737488355328) zz3 (zw ?_)
    try refine sG ?_
    refine sF ?_;refine ⟨⟨(A++[p],B),by rw [h];simp⟩,(zcl [(1,some 1),(2,some 2),(3,some 3),(900,some 39)] (by repeat' (first | exact z0 | refine z1 ?_ | refine ⟨?_,?_⟩ | ((exact zca (f:=Span.row) hsn rfl)) | exact z2))),by simp⟩
  . rw [zy0 c] at hsn
    refine sN ?_;refine sF ?_;refine ⟨⟨(A++[p],B),by rw [h];simp⟩,(zcl [(1,some 1),(2,some 2),(3,some 3),(900,some 900)] (by repeat' (first | exact z0 | refine z1 ?_ | refine ⟨?_,?_⟩ | ((exact zaq (by rw [hsn]))) | exact z2))),by simp⟩
 | nil =>
  rw [zy13] at hl;rw [zy7] at h;refine sN ?_
  (exact zcz [(0,some 900)] (by repeat' (first | exact z0 | refine z1 ?_ | refine ⟨?_,?_⟩ | ((exact zaq (by rw [<- h];rfl))) | exact z2)))
end Rcv
namespace Rcv
open Srt Jn Ser
def pass (r:Receiver) (k:Nat):Receiver:=yox (if (dlv r k (tag (r.zbi[k]?.getD 0)) true).2 then (dlv r k (tag (r.zbi[k]?.getD 0)) true).1 else zpj (dlv r k (tag (r.zbi[k]?.getD 0)) true).1 k (tag (r.zbi[k]?.getD 0)) true) k
def zlj:Nat->Receiver->Nat->Receiver
 | 0,r,_=>r
 | n+1,r,k=>zlj n (pass r k) k
def yfd (r:Receiver) (k:Nat) (n:Int):Receiver:=zlj (n+1-r.zbi[k]?.getD 0).toNat r k
def zku (r:Receiver) (s:zfo):Receiver :=
 if s.stream<0\/(r.zbi.length:Int)<=s.stream then r else if s.ordered=false then zpj r s.stream s.mid false
 else turns (yfd r s.stream.toNat (zdd (r.zbi[s.stream.toNat]?.getD 0) s.mid)) s.stream.toNat
structure xgm (r:Receiver):Prop where
 pieces:r.pieces.length<2 ^ 22
 bytes:tot r.pieces<2 ^ 22
 log:r.log.length+r.pieces.length<2 ^ 37
 lo:∀ t∈r.zbi,-(2 ^ 57)<t
 hi:∀ t∈r.zbi,t<2 ^ 57
theorem zmb (r:Receiver) (k:Nat):(pass r k).zbi=r.zbi.set k (r.zbi[k]?.getD 0+1)/\(pass r k).cum=r.cum/\(pass r k).zax=r.zax/\(pass r k).config=r.config/\(pass r k).pieces.length<=r.pieces.length/\tot (pass r k).pieces<=tot r.pieces /\
 (pass r k).log.length+(pass r k).pieces.length<=r.log.length+r.pieces.length:=by
 obtain ⟨h1,h2,h3,h4,h5,h6,h7⟩:=zjb r k (tag (r.zbi[k]?.getD 0)) true;unfold pass;generalize dlv r k (tag (r.zbi[k]?.getD 0)) true=D at *
 obtain ⟨y,ok⟩:=D;dsimp only at h1 h2 h3 h4 h5 h6 h7 ⊢;cases ok with
 | true=>exact ⟨by show y.zbi.set _ (y.zbi[k]?.getD 0+1)=_;rw [h1],h2,h3,h4,h5,h6,h7⟩
 | false =>
  have f1:=zy55 (fun p=>!zfj k (tag (r.zbi[k]?.getD 0)) true p) y.pieces;have f2:=zmi (fun p=>!zfj k (tag (r.zbi[k]?.getD 0)) true p) y.pieces;refine ⟨by show y.zbi.set _ (y.zbi[k]?.getD 0+1)=_;rw [h1],h2,h3,h4,?_,?_,?_⟩
  . show (List.filter _ _).length<=_;omega
  . show tot (List.filter _ _)<=_;omega
  . show _+(List.filter _ _).length<=_;show y.log.length+_<=_;omega
theorem yul {r:Receiver} {k:Nat} {n:Int} (h:k<r.zbi.length) (hn:r.zbi[k]?.getD 0<=n):yfd r k n=yfd (pass r k) k n:=by
 obtain ⟨h1,_⟩:=zmb r k;unfold yfd;rw [h1,zy20 h];show zlj _ _ _=zlj (n+1-(r.zbi[k]?.getD 0+1)).toNat _ _;obtain ⟨j,hj⟩:∃ j,(n+1-r.zbi[k]?.getD 0).toNat=j+1:=⟨(n+1-r.zbi[k]?.getD 0).toNat-1,by omega⟩
 rw [hj,zlj,show (n+1-(r.zbi[k]?.getD 0+1)).toNat=j by omega]
theorem yxv {r:Receiver} {k:Nat} {n:Int} (hn:n<r.zbi[k]?.getD 0):yfd r k n=r:=by
 unfold yfd;rw [show (n+1-r.zbi[k]?.getD 0).toNat=0 by omega];rfl
theorem zus (r:Receiver) (s:zfo) (hf:xgm r) :
 zao Tryz.prog 184 [.ptr 1000 0,s.hv] (lk .free (tkH r)) (.tup []) (lk .free (tkD (zku r s))):=by
 obtain ⟨f1,f2,f3,f4,f5⟩:=hf;generalize hT:zku r s=T;refine zam mixed Tryz.func184 zz5 [1000,1001,1002,1003,1004] zbh ?_;(conv=>whnf);by_cases c1:s.stream<0
 . rw [zku,zy1 (.inl c1)] at hT
   subst hT;refine zai zz50 ?_;conv=>whnf
   refine sD ?_;exact yy75
 refine zaf zz50 (zw ?_);refine sD ?_;by_cases c2:(r.zbi.length:Int)<=s.stream
 . rw [zku,zy1 (.inr c2)] at hT
   subst hT;refine zai zz45 ?_;conv=>whnf
   exact yy75
 refine zaf zz45 (zw ?_);cases hs3:s.ordered with
 | false =>
  rw [zku,zy0 (by omega),zy1 hs3] at hT;subst hT;(conv=>whnf)
  try refine sG ?_
  (refine zac [] [(1000,1000),(1001,1001),(1002,1002),(1003,1003),(1004,1004)] [(0,910),(1,911),(2,912),(3,913)] ?_;(conv=>whnf);refine dG (zul r s.stream s.mid false zz0) ?_)
  exact yy55
 | true =>
 rw [zku,zy0 (by omega),zy0 (by rw [hs3];decide)] at hT;obtain ⟨k,hk⟩:∃ k:Nat,s.stream=k:=⟨s.stream.toNat,by omega⟩
 have hkl:k<r.zbi.length:=by omega
 have hg:r.zbi[k]?.getD 0=r.zbi[k]:=by simp [hkl]
 have b1:=f4 _ (zy72 hkl);have b2:=f5 _ (zy72 hkl);rw [show s.stream.toNat=k by omega,hg] at hT;(conv=>whnf)
 try refine sG ?_
 refine sO ?_;refine zdj k zz0 hkl (zw ?_)
 (refine cL ?_;refine dL (zjq r.zbi[k] s.mid) ?_)
 refine sD ?_;obtain ⟨n1,n2,n3⟩:=zlh (a:=r.zbi[k]) (t:=s.mid) zz0 zz0;generalize zdd r.zbi[k] s.mid=n at hT n1 n2 n3 ⊢;refine ⟨{x:Receiver // xdc x k/\x.zbi[k]?.getD 0<=2 ^ 58/\turns (yfd x k n) k=T},fun | ⟨x,_⟩=>hsP [1000,1001,1002,1003,1004] 88 [(0,.ptr 1000 0),(3,.ptr 3 0),(4,i64 n)] ((1000,.live (.cells 225 (yxh x (.own 900) (.own 901) (.own 902) (.own 903))))::yxg x 900 901 902 903 [(3,.live (.cells 180 [i64 s.stream,i64 s.mid,zbo true])),(1001,.dead),(1002,.dead),(1003,.dead),(1004,.dead)]),fun x=>(n+1-x.1.zbi[k]?.getD 0).toNat,⟨r,⟨f1,f2,f3,hkl,by rw [hg];omega,by rw [hg];omega⟩,by rw [hg];omega,hT⟩,?_,?_⟩
 . exact (zcu (pK5 ((900,some 1001)::(901,some 1002)::(902,some 1003)::(903,some 1004)::[(3,some 3)])))
 rintro ⟨x,⟨h1,h2,h3,h4,h5,h6⟩,h7,he⟩;(conv=>whnf);refine sO ?_;refine zdj k zz0 h4 (zw ?_);refine sD ?_;have hx:x.zbi[k]?.getD 0=x.zbi[k]:=by simp [h4]
 rw [hx] at h5 h6 h7;by_cases c3:x.zbi[k]<=n
 . rw [yul h4 (by omega)] at he
   obtain ⟨k1,k2,k3,k4,k5,k6,k7⟩:=zmb x k;rw [hx] at k1;have hpas:pass x k=yox (if (dlv x k (tag x.zbi[k]) true).2 then (dlv x k (tag x.zbi[k]) true).1 else zpj (dlv x k (tag x.zbi[k]) true).1 k (tag x.zbi[k]) true) k:=by rw [pass,hx]
   obtain ⟨d1,d2,d3,d4,d5,d6,d7⟩:=zjb x k (tag x.zbi[k]) true;have hgt:(pass x k).zbi[k]?.getD 0=x.zbi[k]+1:=by rw [k1,zy20 h4];rfl
   have next:xdc (pass x k) k/\(pass x k).zbi[k]?.getD 0<=2 ^ 58/\turns (yfd (pass x k) k n) k=T:=⟨⟨by omega,by omega,by omega,by rw [k1,zy26];exact h4,by rw [hgt];omega,by rw [hgt];omega⟩,by rw [hgt];omega,he⟩
   have less:(n+1-(pass x k).zbi[k]?.getD 0).toNat<(n+1-x.zbi[k]?.getD 0).toNat:=by rw [hgt,hx];omega
   refine sT ?_;refine sO ?_;refine zdj k zz0 h4 (zw ?_)
   (refine cL ?_;refine dL (zct _) ?_)
   refine sD ?_
   (refine zac [] [(1000,1000),(1001,900),(1002,901),(1003,902),(1004,903)] [(0,910),(1,911),(2,912),(3,913)] ?_;(conv=>whnf);refine dG (zlm x s.stream (tag x.zbi[k]) true zz0 zz0 zz0) ?_)
   rw [<- hk] at hpas d1 d2 d3 d4 d5 d6 d7;have hbm:∀ (y:Receiver) (z:Int),y.zbi=x.zbi->z=x.zbi[k]+1->zad.live (.row 3 1 ((yox y k).zbi.map fun n=>[pi n]))=zad.live (.row 3 1 ((y.zbi.map fun n=>[pi n]).set s.stream.toNat [pi z])):=fun y z hy hz=>by
    refine zaq ?_;show (y.zbi.set k (y.zbi[k]?.getD 0+1)).map _=_;rw [hy,hx,zy102,hz,show s.stream.toNat=k by omega]
   generalize dlv x s.stream (tag x.zbi[k]) true=D at *
   obtain ⟨y,ok⟩:=D;dsimp only at d1 d2 d3 d4 d5 d6 d7 hpas;have h4y:k<y.zbi.length:=by rw [d1];exact h4
   have hyk:y.zbi[k]=x.zbi[k]:=by simp only [d1]
   cases ok with
   | true =>
    have hpas:pass x k=yox y k:=hpas;(conv=>whnf)
    try refine sG ?_
    refine sO ?_;refine zdj k zz0 h4y (zw ?_);rw [hyk];refine sF ?_;refine sO ?_;refine zdj k zz0 h4y (zw ?_);refine sD ?_;rw [hpas] at next less;refine ⟨⟨_,next⟩,(zbu (pK5 ((3,some 3)::[(900,some 910),(901,some 911),(902,some 912),(903,some 913)])) (by repeat' (first | exact z0 | refine z1 ?_ | refine ⟨?_,?_⟩ | ((exact hbm y (x.zbi[k]+1) d1 rfl)) | ((exact (hbm y (x.zbi[k]+1) d1 rfl).symm)) | exact z2))),less⟩
   | false =>
    have hpas:pass x k=yox (zpj y s.stream (tag x.zbi[k]) true) k:=by rw [hpas,hk];rfl
    conv=>whnf
    try refine sG ?_
    (refine zac [] [(1000,1000),(1001,910),(1002,911),(1003,912),(1004,913)] [(0,920),(1,921),(2,922),(3,923)] ?_;(conv=>whnf);refine dG (zul y s.stream (tag x.zbi[k]) true zz0) ?_)
    have e1:(zpj y s.stream (tag x.zbi[k]) true).zbi=x.zbi:=d1;generalize zpj y s.stream (tag x.zbi[k]) true=w at hpas e1 ⊢;have h4w:k<w.zbi.length:=by rw [e1];exact h4
    have hwk:w.zbi[k]=x.zbi[k]:=by simp only [e1]
    refine sO ?_;refine zdj k zz0 h4w (zw ?_);rw [hwk];refine sF ?_;refine sO ?_;refine zdj k zz0 h4w (zw ?_);refine sD ?_;rw [hpas] at next less;refine ⟨⟨_,next⟩,(zbu (pK5 ((3,some 3)::[(900,some 920),(901,some 921),(902,some 922),(903,some 923)])) (by repeat' (first | exact z0 | refine z1 ?_ | refine ⟨?_,?_⟩ | ((exact hbm w (x.zbi[k]+1) e1 rfl)) | ((exact (hbm w (x.zbi[k]+1) e1 rfl).symm)) | exact z2))),less⟩
 . rw [yxv (by omega)] at he
   subst he;refine sN ?_
   (refine zac [] [(1000,1000),(1001,900),(1002,901),(1003,902),(1004,903)] [(0,910),(1,911),(2,912),(3,913)] ?_;(conv=>whnf);refine dG (zut x k _ hk ⟨h1,h2,h3,h4,by omega,by omega⟩) ?_ ⟨rfl,rfl,rfl,⟨zz1,⟨zz1,⟨zz1,⟨zz1,⟨zz1,trivial⟩⟩⟩⟩⟩,⟨⟨rfl,rfl⟩,⟨⟨rfl,rfl⟩,⟨⟨rfl,rfl⟩,⟨⟨rfl,rfl⟩,trivial⟩⟩⟩⟩,rfl,rfl,rfl⟩)
   exact yy55
end Rcv
namespace Rcv
open Srt Jn Ser
theorem ycr {n:Nat}:∀ {S:List zaw} {i:Nat} {b:List UInt8},zkr n i S=some b->b.length=tot S
 | [],_,_,h=>by rw [zkr] at h;cases h;rfl
 | p::r,i,b,h=>by
  rw [zkr] at h;split at h
  . obtain ⟨d,hd,rfl⟩:=zy24.1 h
    rw [zy8,zeb,ycr hd]
  . cases h
theorem ykf {l:List zaw} {b:List UInt8} (h:join l=some b):b.length=tot l:=by
 unfold join at h;split at h
 . cases h
 . rw [ycr h,ylw zkl]
def ypb (l:List zbw):Nat:=(l.map fun a=>a.data.length).sum
theorem ykm (a b:List zbw):ypb (a++b)=ypb a+ypb b:=by simp [ypb]
theorem ykn {l:List zbw} {a:zbw} (h:a∈l):a.data.length<=ypb l:=by
 obtain ⟨x,y,rfl⟩:=List.append_of_mem h;rw [ykm];simp [ypb];omega
structure zrs (r r':Receiver) (d:Nat):Prop where
 len:r'.zbi.length=r.zbi.length
 cum:r'.cum=r.cum
 zax:r'.zax=r.zax
 config:r'.config=r.config
 pieces:r'.pieces.length<=r.pieces.length
 bytes:tot r'.pieces<=tot r.pieces
 log:r'.log.length+r'.pieces.length<=r.log.length+r.pieces.length
 mass:ypb r'.log+tot r'.pieces<=ypb r.log+tot r.pieces
 pre:r.log <+: r'.log
 lo:∀ L:Int,(∀ t∈r.zbi,L<t)->∀ t∈r'.zbi,L<t
 hi:∀ T:Int,(∀ t∈r.zbi,t+r.pieces.length<=T)->∀ t∈r'.zbi,t+r'.pieces.length<=T+d
theorem zrs.refl (r:Receiver):zrs r r 0:=⟨rfl,rfl,rfl,rfl,zy25 _,zy25 _,zy25 _,zy25 _,zy154 _,fun _ h=>h,fun T h t ht=>by have:=h t ht;omega⟩
theorem zrs.trans {a b c:Receiver} {d e:Nat} (h:zrs a b d) (k:zrs b c e):zrs a c (d+e):=by
 obtain ⟨a1,a2,a3,a4,a5,a6,a7,a8,a9,a10,a11⟩:=h;obtain ⟨b1,b2,b3,b4,b5,b6,b7,b8,b9,b10,b11⟩:=k;exact ⟨b1.trans a1,b2.trans a2,b3.trans a3,b4.trans a4,by omega,by omega,by omega,by omega,a9.trans b9,fun L h=>b10 L (a10 L h),fun T h t ht=>by have:=b11 (T+d) (a11 T h) t ht;omega⟩
theorem zrs.more {a b:Receiver} {d e:Nat} (h:zrs a b d) (k:d<=e):zrs a b e:={h with hi:=fun T ht t hm=>by have:=h.hi T ht t hm;omega}
theorem yxc {l:List zaw} (f:zaw->Bool):(l.filter fun p=>!f p).length+(l.filter f).length=l.length:=by
 induction l with
 | nil=>rfl
 | cons p l ih =>
  rw [zy47,zy47];cases f p<;>simp<;>omega
theorem yky {l:List zaw} (f:zaw->Bool):tot (l.filter fun p=>!f p)+tot (l.filter f)=tot l:=by
 induction l with
 | nil=>rfl
 | cons p l ih =>
  rw [zy47,zy47];cases f p<;>simp [zeb]<;>omega
theorem ybg (r:Receiver) (s m:Int) (o:Bool):zrs r (zpj r s m o) 0:=by
 have h1:=yxc (l:=r.pieces) (zfj s m o);have h2:=yky (l:=r.pieces) (zfj s m o);refine ⟨rfl,rfl,rfl,rfl,?_,?_,?_,?_,zy154 _,fun _ h=>h,fun T h t ht=>?_⟩
 . show (r.pieces.filter fun p=>!zfj s m o p).length<=_;omega
 . show tot (r.pieces.filter fun p=>!zfj s m o p)<=_;omega
 . show _+(r.pieces.filter fun p=>!zfj s m o p).length<=_;show r.log.length+_<=_;omega
 . show _+tot (r.pieces.filter fun p=>!zfj s m o p)<=_;show ypb r.log+_<=_;omega
 . have:=h t ht
   show t+((r.pieces.filter fun p=>!zfj s m o p).length:Int)<=_;omega
theorem zya (r:Receiver) (s m:Int) (o:Bool):zrs r (dlv r s m o).1 0:=by
 obtain ⟨a1,a2,a3,a4,a5,a6,a7⟩:=zjb r s m o;refine ⟨by rw [a1],a2,a3,a4,a5,a6,a7,?_,?_,fun L h=>by rw [a1];exact h,fun T h t ht=>by rw [a1] at ht;have:=h t ht;omega⟩
 . unfold dlv
   split
   . exact zy25 _
   . rename_i b hj
     have h1:=ykf hj;have h2:=yky (l:=r.pieces) (zfj s m o);show ypb (r.log++[_])+tot (r.pieces.filter fun p=>!zfj s m o p)<=_;rw [ykm];simp only [ypb,zy21,zy115,zy80,List.sum_nil] at *
     omega
 . unfold dlv
   split
   . exact zy154 _
   . exact List.prefix_append _ _
theorem yhi {l:List Int} {k:Nat} {t:Int} (h:t∈l.set k (l[k]?.getD 0+1)):t∈l\/(t-1∈l):=by
 by_cases hk:k<l.length
 . rcases zy44 h with h | h
   . exact .inl h
   . right
     rw [h,zy2 hk];simp only [zy131];rw [show l[k]+1-1=l[k] by omega];exact zy72 hk
 . rw [List.set_eq_of_length_le (by omega)] at h
   exact .inl h
theorem zsw (r:Receiver) (k:Nat):zrs r (yox r k) 1:=by
 refine ⟨by show (r.zbi.set k _).length=_;rw [zy26],rfl,rfl,rfl,zy25 _,zy25 _,zy25 _,zy25 _,zy154 _,fun L h t ht=>?_,fun T h t ht=>?_⟩
 . rcases yhi ht with h1 | h1
   . exact h t h1
   . have:=h _ h1;omega
 . show t+(r.pieces.length:Int)<=_
   rcases yhi ht with h1 | h1
   . have:=h t h1;omega
   . have:=h _ h1;omega
theorem ymi {r x:Receiver} (k:Nat) (h:zrs r x 0) (hl:x.pieces.length<r.pieces.length) (ht:x.zbi=r.zbi):zrs r (yox x k) 0:=by
 have h1:=h.trans (zsw x k);refine {h1 with hi:=fun T hT t htm=>?_};show t+(x.pieces.length:Int)<=_;rcases yhi htm with h2 | h2
 . rw [ht] at h2;have:=hT t h2;omega
 . rw [ht] at h2;have:=hT _ h2;omega
theorem zql:∀ (n:Nat) (r:Receiver) (k:Nat),r.pieces.length<n->zrs r (turns r k) 0
 | 0,r,k,h=>by omega
 | n+1,r,k,h=>by
  rw [zxh];have h1:=zya r k (tag (r.zbi[k]?.getD 0)) true;split
  . rename_i hd
    have h2:=znv hd;have h3:=ymi k h1 h2 (zjb r k (tag (r.zbi[k]?.getD 0)) true).1;exact h3.trans (zql n _ k (by show (dlv r k (tag (r.zbi[k]?.getD 0)) true).1.pieces.length<n;omega))
  . exact h1
theorem yso (r:Receiver) (k:Nat):zrs r (pass r k) 1:=by
 have h1:=zya r k (tag (r.zbi[k]?.getD 0)) true;unfold pass;split
 . exact h1.trans (zsw _ _)
 . exact (h1.trans (ybg _ _ _ _)).trans (zsw _ _)
theorem ztz:∀ (n:Nat) (r:Receiver) (k:Nat),zrs r (zlj n r k) n
 | 0,r,_=>zrs.refl r
 | n+1,r,k=>((yso r k).trans (ztz n _ k)).more zz0
theorem yeg (r:Receiver) (s:zfo) (h:∀ t∈r.zbi,-(2 ^ 60)<t/\t<2 ^ 60):zrs r (zku r s) 32769:=by
 unfold zku;split
 . exact (zrs.refl r).more zz0
 split
 . exact (ybg _ _ _ _).more zz0
 rename_i c _;have hk:s.stream.toNat<r.zbi.length:=by omega
 have hb:=h _ (zy72 hk);have hg:r.zbi[s.stream.toNat]?.getD 0=r.zbi[s.stream.toNat]:=by simp [hk]
 obtain ⟨n1,n2,n3⟩:=zlh (a:=r.zbi[s.stream.toNat]) (t:=s.mid) zz0 zz0;have h1:=ztz (zdd r.zbi[s.stream.toNat] s.mid+1-r.zbi[s.stream.toNat]).toNat r s.stream.toNat;refine (zrs.trans (b:=yfd r s.stream.toNat (zdd (r.zbi[s.stream.toNat]?.getD 0) s.mid)) (d:=32769) (e:=0) ?_ (zql _ _ _ (zy155 _)));unfold yfd;rw [hg];exact h1.more zz0
theorem ybp:∀ (l:List zfo) (r:Receiver) (L T:Int),-(2 ^ 59)<=L->T+l.length*32769<2 ^ 59->(∀ t∈r.zbi,L<t)->(∀ t∈r.zbi,t+r.pieces.length<=T)->zrs r (l.foldl zku r) (l.length*32769)
 | [],r,_,_,_,_,_,_=>(zrs.refl r).more zz0
 | s::l,r,L,T,h1,h2,h3,h4=>by
  rw [zy6] at h2;have g:=yeg r s fun t ht=>by have:=h3 t ht;have:=h4 t ht;omega
  have g2:=ybp l (zku r s) L (T+32769) h1 zz0 (g.lo L h3) (g.hi T h4);rw [zy56,zy6];exact (g.trans g2).more zz0
def forward (r:Receiver) (c:Chunk):Receiver :=
 if ¬ c.kind=3\/zdd r.cum c.tag<=r.cum then r else c.zbs.foldl zku {r with cum:=(up r.zax (zdd r.cum c.tag)).1,zax:=(up r.zax (zdd r.cum c.tag)).2}
structure zlv (N:Nat) (r:Receiver):Prop where
 log:r.log.length+r.pieces.length<=N
 mass:ypb r.log+tot r.pieces<=N
 many:r.zax.length<=N
 zfa:zfa r.zax
 zec:∀ s∈r.zax,r.cum+1<s.lo
 his:∀ s∈r.zax,s.hi<=r.cum+32768
 cum1:-1<=r.cum
 cum2:r.cum<=100000+32768*N
 lo:∀ t∈r.zbi,-1<t
 hi:∀ t∈r.zbi,t+r.pieces.length<=32769*N
 streams:r.zbi.length<2 ^ 30
theorem zlv.more {N M:Nat} {r:Receiver} (h:zlv N r) (k:N<=M):zlv M r :=
 ⟨by have:=h.log;omega,by have:=h.mass;omega,by have:=h.many;omega,h.zfa,h.zec,h.his,h.cum1,by have:=h.cum2;omega,h.lo,fun t ht=>by have:=h.hi t ht;omega,h.streams⟩
theorem zlv.fit {N:Nat} {r:Receiver} (h:zlv N r) (hN:N<=2000000):Fit r:=by
 obtain ⟨h1,h2,h3,h4,h5,h6,h7,h8,h9,h10,h11⟩:=h;exact ⟨by omega,by omega,by omega,by omega,by omega,fun a ha=>by have:=ykn ha;omega⟩
theorem zlv.dfit {N:Nat} {r:Receiver} (h:zlv N r) (hN:N<=2000000) {c:Chunk} (hc:c.data.length<=2 ^ 20):xfr r c:=by
 have hf:=h.fit hN;obtain ⟨h1,h2,h3,h4,h5,h6,h7,h8,h9,h10,h11⟩:=h;exact ⟨hf,h4,fun s hs=>by have:=h6 s hs;omega,by omega,by omega,fun t ht=>by have:=h9 t ht;have:=h10 t ht;omega,by omega,by omega,by omega⟩
theorem zlr:∀ {l:List Span} {n:Int} (_:Ser.zfa l),n<=(up l n).1/\(up l n).2.length<=l.length/\Ser.zfa (up l n).2/\(∀ s∈(up l n).2,s∈l)/\(∀ s∈(up l n).2,(up l n).1+1<s.lo)/\((up l n).1=n\/∃ s∈l,(up l n).1=s.hi)
 | [],n,_=>by simp [up,Ser.zfa]
 | s::r,n,h=>by
  rw [up];split
  . rename_i c
    have ih:=zlr (l:=r) (n:=if s.hi>n then s.hi else n) h.2.2.2.2;have h1:n<=(if s.hi>n then s.hi else n):=by split<;>omega
    have h2:(if s.hi>n then s.hi else n)=n\/(if s.hi>n then s.hi else n)=s.hi:=by split<;>simp
    generalize (if s.hi>n then s.hi else n)=n' at *
    obtain ⟨i1,i2,i3,i4,i5,i6⟩:=ih;refine ⟨by omega,by simp;omega,i3,fun t ht=>by simp [i4 t ht],i5,?_⟩;rcases i6 with i6 | ⟨t,ht,e⟩
    . rcases h2 with h2 | h2
      . exact .inl (i6.trans h2)
      . exact .inr ⟨s,by simp,i6.trans h2⟩
    . exact .inr ⟨t,by simp [ht],e⟩
  . rename_i c
    refine ⟨zy91 _,zy25 _,h,fun t ht=>ht,fun t ht=>?_,.inl rfl⟩;have h0:=h.1;rcases zy14.1 ht with rfl | ht
    . omega
    . have:=h.2.2.2.1 t ht;omega
theorem xey:∀ {l:List Span} {n m:Int} (_:Ser.zfa l),has l m=true->m<=(up l n).1\/has (up l n).2 m=true
 | [],n,m,_,h=>by simp [has] at h
 | s::r,n,m,h,hm=>by
  rw [up];split
  . rename_i c
    rw [zjx,zy75] at hm;have u:=(zlr (n:=if s.hi>n then s.hi else n) h.2.2.2.2).1;have h1:s.hi<=(if s.hi>n then s.hi else n):=by split<;>omega
    rcases hm with hm | hm
    . left
      have:m<=s.hi:=by simp at hm;exact hm.2
      omega
    . exact xey h.2.2.2.2 hm
  . exact .inr hm
theorem zlv.goes {N d e:Nat} {r r':Receiver} (h:zlv N r) (g:zrs r r' d) (hd:d<=32769*e):zlv (N+e) r':=by
 obtain ⟨h1,h2,h3,h4,h5,h6,h7,h8,h9,h10,h11⟩:=h;obtain ⟨a1,a2,a3,a4,a5,a6,a7,a8,a9,a10,a11⟩:=g;exact ⟨by omega,by omega,by rw [a3];omega,by rw [a3];exact h4,by rw [a2,a3];exact h5,fun s hs=>by rw [a3] at hs;have:=h6 s hs;omega,by omega,by omega,a10 _ h9,fun t ht=>by have:=a11 _ h10 t ht;omega,by omega⟩
theorem zlv.put {N:Nat} {r:Receiver} (h:zlv N r) (hN:N<=2 ^ 21) {c:Chunk} (ht:yar r c (zdd r.cum c.tag)):zlv (N+(c.data.length+1)) (put r c):=by
 obtain ⟨h1,h2,h3,h4,h5,h6,h7,h8,h9,h10,h11⟩:=h;obtain ⟨n1,n2,n3⟩:=zlh (a:=r.cum) (t:=c.tag) zz0 zz0;have ha:=ht.zec;unfold Rcv.put;generalize zdd r.cum c.tag=n at *
 have hadd:=ypg (n:=n) (M:=r.cum+32768) h4 zz0 zz0 (fun s hs=>by have:=h6 s hs;omega) zz0;have hal:=yie r.zax n;obtain ⟨u1,u2,u3,u4,u5,u6⟩:=zlr (n:=r.cum) (zxo h4 (n:=n) zz0 zz0).1;refine ⟨?_,?_,?_,u3,u5,fun s hs=>?_,?_,?_,h9,?_,h11⟩
 . simp only [zy8,zy50];omega
 . dsimp only
   rw [znn,zeb];have:tot []=0:=rfl;dsimp only;omega
 . dsimp only;omega
 . have:=hadd s (u4 s hs);dsimp only;omega
 . dsimp only;omega
 . dsimp only
   rcases u6 with u6 | ⟨s,hs,u6⟩
   . omega
   . have:=hadd s hs;omega
 . intro t htt
   have:=h10 t htt;simp only [zy8,zy50];omega
theorem yvd {N:Nat} {r:Receiver} (h:zlv N r) (hN:N<=2 ^ 21) (c:Chunk):zlv (N+(c.data.length+1)) (data r c):=by
 unfold data;split
 . rename_i ht
   have hp:=h.put hN ht;split
   . exact hp.goes (e:=0) (zql _ _ _ (zy155 _)) (zy96 _)
   . exact hp.goes (e:=0) (zya _ _ _ _) (zy96 _)
 . exact h.more zz0
theorem ygc {N:Nat} {r:Receiver} (h:zlv N r) (hN:N<=2 ^ 21) (c:Chunk) (hc:c.zbs.length<=2 ^ 21):zlv (N+(c.zbs.length+1)) (forward r c):=by
 unfold forward;split
 . exact h.more zz0
 rename_i ht;obtain ⟨h1,h2,h3,h4,h5,h6,h7,h8,h9,h10,h11⟩:=h;obtain ⟨n1,n2,n3⟩:=zlh (a:=r.cum) (t:=c.tag) zz0 zz0;have ha:r.cum<zdd r.cum c.tag:=by
  apply Classical.byContradiction;intro hc;exact ht (.inr zz0)
 generalize zdd r.cum c.tag=n at *
 obtain ⟨u1,u2,u3,u4,u5,u6⟩:=zlr (n:=n) h4;have hw:zlv (N+1) {r with cum:=(up r.zax n).1,zax:=(up r.zax n).2}:=by
  exact yy32
 have g:=ybp c.zbs {r with cum:=(up r.zax n).1,zax:=(up r.zax n).2} (-1) (32769*N) zz0 zz0 h9 h10;exact (hw.goes (e:=c.zbs.length) g zz0).more zz0
theorem zoh {a t n:Int} (h1:-(2 ^ 61)<=a) (h2:a<=2 ^ 61) (h3:a-32767<=n) (h4:n<=a+32768) (h5:tag n=tag t):zdd a t=n:=by
 obtain ⟨n1,n2,n3⟩:=zlh (a:=a) (t:=t) h1 h2;rw [<- h5] at n3;unfold tag at n3;omega
end Rcv
namespace Rcv
open Srt Jn Ser
theorem zlv.skip {N:Nat} {r:Receiver} (h:zlv N r) (hN:N<=2 ^ 23) (s:zfo):zlv (N+1) (zku r s) :=
 h.goes (e:=1) (yeg r s fun t ht=>by have:=h.lo t ht;have:=h.hi t ht;omega) zz0
theorem zlv.sfit {N:Nat} {r:Receiver} (h:zlv N r) (hN:N<2 ^ 22):xgm r:=by
 obtain ⟨h1,h2,h3,h4,h5,h6,h7,h8,h9,h10,h11⟩:=h;exact ⟨by omega,by omega,by omega,fun t ht=>by have:=h9 t ht;omega,fun t ht=>by have:=h10 t ht;omega⟩
def yux (r:Receiver) (n:Int):Receiver:={r with cum:=(up r.zax n).1,zax:=(up r.zax n).2}
theorem zlv.up {N:Nat} {r:Receiver} (h:zlv N r) (_:N<=2 ^ 22) {n:Int} (n1:r.cum<n) (n2:n<=r.cum+32768):zlv (N+1) (yux r n):=by
 obtain ⟨h1,h2,h3,h4,h5,h6,h7,h8,h9,h10,h11⟩:=h;obtain ⟨u1,u2,u3,u4,u5,u6⟩:=zlr (n:=n) h4;unfold yux;exact yy32
theorem yem (r:Receiver) (c:Chunk) {N:Nat} (h:zlv N r) (hN:N<=2000000) (hc:c.zbs.length<=2 ^ 20) :
 zao Tryz.prog 153 [r.hv,c.hv] zae (xfm (forward r c) 0 1 2 3) (lk .free (yxg (forward r c) 0 1 2 3 [])):=by
 have hfit:=h.fit hN;have h6:=h.his;have h7:=h.cum1;have h8:=h.cum2;obtain ⟨n1,n2,n3⟩:=zlh (a:=r.cum) (t:=c.tag) zz0 zz0;generalize hD:forward r c=D;refine zam mixed Tryz.func153 zz5 [] (fun _=>.inl rfl) ?_;(conv=>whnf)
 (refine zar [(0,910),(1,911),(2,912),(3,913)]  ?_;(conv=>whnf);refine dO (zcy r hfit) ?_)
 (refine cL ?_;refine dL (zjq r.cum c.tag) ?_)
 by_cases c1:c.kind=3
 case neg =>
  obtain rfl:r=D:=by rw [<- hD,forward,zy1 (.inl c1)]
  refine zai zz50 ?_;conv=>whnf
  exact yy70
 refine zaf (by simp [c1]) (zw ?_);by_cases c2:zdd r.cum c.tag<=r.cum
 . obtain rfl:r=D:=by rw [<- hD,forward,zy1 (.inr c2)]
   refine zai zz45 ?_;conv=>whnf
   exact yy70
 refine zaf zz45 (zw ?_)
 try refine sG ?_
 have hw:=h.up zz0 (n:=zdd r.cum c.tag) zz0 zz0;have e:c.zbs.foldl zku (yux r (zdd r.cum c.tag))=D:=by rw [<- hD,forward,zy0 (by simp [c1];omega)];rfl
 (refine zar [(0,37)]  ?_;(conv=>whnf);refine dO (yud r.zax (zdd r.cum c.tag) (fun s hs=>by have:=h6 s hs;omega) (by have:=hfit.zax;omega) zz0 zz0) ?_)
 refine ⟨{x:Receiver×List zfo×List zfo // c.zbs=x.2.1++x.2.2/\zlv (N+1+x.2.1.length) x.1/\x.2.2.foldl zku x.1=D},fun | ⟨(x,a,b),_⟩=>hs 61 [(4,.ptr 4 0),(5,.ptr 12 0),(47,.p (.sl 3 (c.zbs.map zfo.row))),(48,i64 c.zbs.length),(49,i64 a.length)] ((4,.live (.cells 37 xcn))::(12,.live (.cells 225 (yxh x (.own 900) (.own 901) (.own 902) (.own 903))))::yxg x 900 901 902 903 []),fun x=>x.1.2.2.length,⟨(yux r (zdd r.cum c.tag),[],c.zbs),rfl,hw,e⟩,?_,?_⟩
 . exact (zdi [(4,some 4),(12,some 12),(900,some 37),(901,some 911),(902,some 912),(903,some 913)])
 rintro ⟨⟨x,a,b⟩,h1,h2,h3⟩;dsimp only at h1 h2 h3;(conv=>whnf);cases b with
 | cons s b =>
  have hz:=zbz h1;refine sT ?_;refine zak h1 rfl (zw ?_)
  (refine zac [] [(1000,12),(1001,900),(1002,901),(1003,902),(1004,903)] [(0,910),(1,911),(2,912),(3,913)] ?_;(conv=>whnf);refine dG (zus x s (h2.sfit zz0)) ?_)
  refine sF ?_;exact ⟨⟨(zku x s,a++[s],b),zan h1,by have:=h2.skip zz0 s;simpa [zy97] using this,h3⟩,(zdi [(4,some 4),(12,some 12),(900,some 910),(901,some 911),(902,some 912),(903,some 913)]),by simp⟩
 | nil =>
  have hz:=zco h1;have h3:x=D:=h3;subst h3;refine sN ?_
  (exact zby [(0,some 900),(1,some 901),(2,some 902),(3,some 903)])
end Rcv
namespace Rcv
open Srt Jn Ser
theorem ybe {r:Receiver} {s m:Int} {o:Bool} (h:(dlv r s m o).2=false):(dlv r s m o).1=r:=by
 unfold dlv at h ⊢;split
 . rfl
 . rename_i b hj;rw [hj] at h;cases h
end Rcv
namespace Rcv
open Srt Jn Ser
end Rcv
namespace Rcv
open Srt Jn Ser
end Rcv
namespace Rcv
open Srt Jn Ser
end Rcv
namespace Rcv
open Srt Jn Ser
def wt (c:Chunk):Nat:=c.data.length+c.zbs.length+1
def wts (l:List Chunk):Nat:=(l.map wt).sum
theorem yum (a b:List Chunk):wts (a++b)=wts a+wts b:=by simp [wts]
theorem zmm (c:Chunk) (b:List Chunk):wts (c::b)=wt c+wts b:=by simp [wts]
end Rcv
namespace Rcv
open Srt Jn Ser
theorem zlv.cumB {N:Nat} {r:Receiver} (h:zlv N r) (hN:N<=2000000):-(2 ^ 60)<=r.cum/\r.cum<=2 ^ 60:=by
 have:=h.cum1;have:=h.cum2;omega
theorem zlv.spansB {N:Nat} {r:Receiver} (h:zlv N r) (hN:N<=2000000):∀ s∈r.zax,-(2 ^ 61)<=s.lo/\s.lo<=2 ^ 61/\-(2 ^ 61)<=s.hi/\s.hi<=2 ^ 61:=fun s hs=>by
 have h1:=h.zec s hs;have h2:=h.his s hs;have h3:=h.cum1;have h4:=h.cum2;have h5:=(zik h.zfa s hs).1;omega
end Rcv
namespace Rcv
open Srt Jn Ser
theorem yts (c:Config) (h1:-9223372036854775808<c.first) (h2:c.first<=9223372036854775807) (h3:c.streams<=1099511627776):zao Tryz.prog 110 [c.hv] zae (yan c).hv zae:=by
 refine zcg Tryz.func110 (zov c h1 h2 h3) ?_;(conv=>whnf)
 rfl
theorem ynz (r:Receiver) (c:Chunk) (hf:xfr r c):zao Tryz.prog 152 [r.hv,c.hv] zae (data r c).hv zae:=by
 refine zcg Tryz.func152 (ytl r c hf) ?_;generalize data r c=d;(conv=>whnf)
 rfl
theorem yac (r:Receiver) (c:Chunk) {N:Nat} (h:zlv N r) (hN:N<=2000000) (hc:c.zbs.length<=2 ^ 20):zao Tryz.prog 153 [r.hv,c.hv] zae (forward r c).hv zae:=by
 refine zcg Tryz.func153 (yem r c h hN hc) ?_;generalize forward r c=d;(conv=>whnf)
 rfl
theorem yok (r:Receiver) (h1:r.zax.length<2 ^ 40) (h2:r.pieces.length<2 ^ 40) (h3:tot r.pieces<2 ^ 60) (hc:-(2 ^ 60)<=r.cum) (hc2:r.cum<=2 ^ 60) (hsp:∀ s∈r.zax,-(2 ^ 61)<=s.lo/\s.lo<=2 ^ 61/\-(2 ^ 61)<=s.hi/\s.hi<=2 ^ 61) :
 zao Tryz.prog 154 [r.hv] zae (zmp r).hv zae:=by
 refine zcg Tryz.func154 (ytv r h1 h2 h3 hc hc2 hsp) ?_;(conv=>whnf)
 rfl
theorem zur (r:Receiver) (hr:Fit r):zao Tryz.prog 111 [r.hv] zae r.hv zae:=by
 refine zcg Tryz.func111 (zcy r hr) ?_;(conv=>whnf)
 rfl
def xgo:Config:=⟨2,4,60,1,1,5,7⟩
def a8:Chunk:=⟨1,8,0,1,0,true,true,[98],[],0,[]⟩
def a7:Chunk:=⟨1,7,0,0,0,true,true,[97],[],0,[]⟩
def r1:Receiver:=⟨xgo,6,[⟨8,8⟩],[⟨8,a8⟩],[0,0],[]⟩
def r2:Receiver:=⟨xgo,8,[],[],[2,0],[⟨0,0,true,[97]⟩,⟨0,1,true,[98]⟩]⟩
end Rcv
namespace Ln
open Ser
def xcu (w:List zay) (p:zay):List zay:=if w.length<40 then w++[p] else w
def zvf (w ps:List zay):List zay:=ps.foldl xcu w
def zhr (back:Bool) (x:zer×Bool) (c:Chunk):zer×Bool :=
 if back then ({x.1 with sender:=Snd.yfh x.1.sender c},x.2) else
 if c.kind=1 then ({x.1 with receiver:=Rcv.data x.1.receiver c},true) else
 if c.kind=3 then ({x.1 with receiver:=Rcv.forward x.1.receiver c},true) else x
def told (path:Int) (l:zer):zer:=if (Pck.zcv [Rcv.zmp l.receiver] 120).2=0 then {l with way:=zvf l.way [⟨path,true,(Pck.zcv [Rcv.zmp l.receiver] 120).1⟩]} else l
def zjy (l:zer) (p:zay):zer×Bool:=(Pck.zfu p.bytes).1.foldl (zhr p.back) (l,false)
def zgd (l:zer) (p:zay):zer :=
 if (Pck.zfu p.bytes).2≠0 then l else if (zjy l p).2 then told p.path (zjy l p).1 else (zjy l p).1
def emit (l:zer):zer:={l with sender:=(Snd.zlk l.sender).1,way:=zvf l.way (Snd.zlk l.sender).2}
def doS (l:zer) (x:Step):zer×Answer :=
 if x.kind=1 then (if Snd.zfq l.sender x.message=0 then (emit {l with sender:=Snd.zjm l.sender x.message},⟨0,l.sender.fates.length⟩) else (l,⟨Snd.zfq l.sender x.message,0⟩)) else
 if x.kind=2\/x.kind=3\/x.kind=4 then (if x.n<0 then (l,⟨6,0⟩) else match l.way[x.n.toNat]? with
  | none=>(l,⟨6,0⟩)
  | some p=>if x.kind=4 then (emit {l with way:=zvf l.way [p]},⟨0,0⟩) else
   (emit (if x.kind=2 then zgd {l with way:=l.way.eraseIdx x.n.toNat} p else {l with way:=l.way.eraseIdx x.n.toNat}),⟨0,0⟩)) else
 if x.kind=5 then (emit {l with sender:=Snd.tick l.sender},⟨0,0⟩) else (l,⟨1,0⟩)
def zoi (c:Config):zer:=⟨Snd.zrb c,Rcv.yan c,[]⟩
def zqf:zer->List Step->zer×List Answer
 | l,[]=>(l,[])
 | l,x::r=>((zqf (doS l x).1 r).1,(doS l x).2::(zqf (doS l x).1 r).2)
theorem yla:∀ (a:List Step) (l:zer) (b:List Step),zqf l (a++b)=((zqf (zqf l a).1 b).1,(zqf l a).2++(zqf (zqf l a).1 b).2)
 | [],l,b=>rfl
 | x::a,l,b=>by
  have h:=yla a (doS l x).1 b;rw [zy39,zqf,h];rfl
theorem zzl:∀ (a:List Step) (l:zer),(zqf l a).2.length=a.length
 | [],_=>rfl
 | x::a,l=>by rw [zqf,zy6,zzl a];rfl
theorem yst:∀ (ps w:List zay),w.length<=40->(zvf w ps).length<=40
 | [],w,h=>h
 | p::ps,w,h=>by
  unfold zvf;rw [zy56];refine yst ps _ ?_;unfold xcu;split
  . simp;omega
  . exact h
theorem zzn:∀ (ps w:List zay),∀ p∈zvf w ps,p∈w\/p∈ps
 | [],w,p,h=>.inl h
 | q::ps,w,p,h=>by
  unfold zvf at h;rw [zy56] at h;rcases zzn ps _ p h with h | h
  . unfold xcu at h
    split at h
    . rcases zy11.1 h with h | h
      . exact .inl h
      . rw [zy9] at h;subst h;exact .inr zz4
    . exact .inl h
  . exact .inr (by simp [h])
theorem zqc (l:List Chunk) (most:Int) (h:0<=most):((Pck.zcv l most).1.length:Int)<=most:=by
 unfold Pck.zcv
 (repeat' split)<;>first | (simp;omega) | (dsimp only;omega)
theorem yzp (kind:Int) (b:List UInt8):(Chk.zed kind b).1.data.length+(Chk.zed kind b).1.zbs.length<=b.length/\(Chk.zed kind b).1.zax.length<=b.length:=by
 have h1:=Chk.zll (b.drop 2);have h2:=Chk.zki (b.drop 4);have h3:(b.drop 2).length<=b.length:=by simp
 have h4:(b.drop 4).length<=b.length:=by simp
 unfold Chk.zed
 (repeat' split)<;>constructor<;>first | (simp [Chk.no];done) | (dsimp only [Chk.no];simp;omega) | (dsimp only [Chk.no];omega)
theorem yxb {b:List UInt8} (h:(Chk.parse b).2.2=0):Rcv.wt (Chk.parse b).1+1<=(Chk.parse b).2.1.toNat/\(Chk.parse b).2.1.toNat<=b.length/\(Chk.parse b).1.zax.length<=b.length:=by
 have h1:=yzp (b[0]?.getD 0).toNat ((b.drop 2).take (b[1]?.getD 0).toNat);have h2:((b.drop 2).take (b[1]?.getD 0).toNat).length<=(b[1]?.getD 0).toNat:=by simp;omega
 have h3:((b.drop 2).take (b[1]?.getD 0).toNat).length<=b.length:=by simp;omega
 unfold Chk.parse at h ⊢
 (repeat' split at h)<;>first | contradiction | skip
 . rename_i c1 c2 c3 c4
   rw [zy0 c1,zy0 c2,zy0 c3,zy0 c4];unfold Rcv.wt;dsimp only;refine ⟨by omega,by omega,by omega⟩
theorem ydo:∀ (f:Nat) (b:List UInt8),Rcv.wts (Pck.zft f b).1<=b.length/\∀ c∈(Pck.zft f b).1,c.zax.length<=b.length/\Rcv.wt c<=b.length
 | 0,b=>by simp [Pck.zft,Rcv.wts]
 | f+1,b=>by
  have ih:=ydo f (b.drop (Chk.parse b).2.1.toNat);unfold Pck.zft
  (repeat' split)<;>first | (simp [Rcv.wts];done) | skip
  rename_i c1 c2 c3;have hp:=yxb (Decidable.not_not.1 c2);rw [zy60] at ih;refine ⟨?_,fun c hc=>?_⟩
  . dsimp only
    rw [Rcv.zmm];omega
  . rcases zy14.1 hc with rfl | hc
    . exact ⟨hp.2.2,by omega⟩
    . have:=ih.2 c hc;omega
theorem zuc (b:List UInt8):Rcv.wts (Pck.zfu b).1<=b.length/\∀ c∈(Pck.zfu b).1,c.zax.length<=b.length/\Rcv.wt c<=b.length:=by
 unfold Pck.zfu;split
 . simp [Rcv.wts]
 . exact ydo _ _
theorem ysl {most path:Int} {l:List Chunk} (h0:0<=most):∀ p∈Snd.zmo most path l,(p.bytes.length:Int)<=most/\p.back=false:=by
 intro p hp;unfold Snd.zmo at hp;split at hp
 . rw [zy9] at hp;subst hp;exact ⟨zqc _ _ h0,rfl⟩
 . simp at hp
theorem ydm {most path:Int} (h0:0<=most):∀ (n:Nat) (l:List Chunk),∀ p∈Snd.zgj most path n l,(p.bytes.length:Int)<=most/\p.back=false
 | 0,l,p,hp=>by simp [Snd.zgj] at hp
 | n+1,l,p,hp=>by
  unfold Snd.zgj at hp;split at hp
  . simp at hp
  . rcases zy11.1 hp with hp | hp
    . exact ysl h0 p hp
    . exact ydm h0 n _ p hp
theorem zrc {most:Int} (h0:0<=most):∀ (ls:List (List Chunk)) (k:Nat),∀ p∈Snd.zcb most k ls,(p.bytes.length:Int)<=most/\p.back=false
 | [],k,p,hp=>by simp [Snd.zcb] at hp
 | l::ls,k,p,hp=>by
  unfold Snd.zcb at hp;rcases zy11.1 hp with hp | hp
  . exact ydm h0 _ _ p hp
  . exact zrc h0 ls _ p hp
structure LI (N M:Nat) (l:zer):Prop where
 snd:Snd.SI N l.sender
 rcv:Rcv.zlv M l.receiver
 small:M<=2000000
 way:l.way.length<=40
 bytes:∀ p∈l.way,p.bytes.length<=120
section
variable {N M:Nat} {l:zer}
theorem LI.more (h:LI N M l) {M':Nat} (h1:M<=M') (h2:M'<=2000000):LI N M' l:=⟨h.snd,h.rcv.more h1,h2,h.way,h.bytes⟩
theorem zyo {back:Bool} {x:zer×Bool} {c:Chunk} (h:LI N M x.1) (hM:M+Rcv.wt c<=2000000):LI N (M+Rcv.wt c) (zhr back x c).1:=by
 have hw:Rcv.wt c=c.data.length+c.zbs.length+1:=rfl;unfold zhr;split
 . exact ⟨Snd.xap h.snd c,h.rcv.more zz0,hM,h.way,h.bytes⟩
 split
 . exact ⟨h.snd,(Rcv.yvd h.rcv zz0 c).more zz0,hM,h.way,h.bytes⟩
 split
 . exact ⟨h.snd,(Rcv.ygc h.rcv zz0 c zz0).more zz0,hM,h.way,h.bytes⟩
 . exact h.more zz0 hM
theorem yjn {back:Bool}:∀ (cs:List Chunk) {M:Nat} {x:zer×Bool},LI N M x.1->M+Rcv.wts cs<=2000000->LI N (M+Rcv.wts cs) (cs.foldl (zhr back) x).1
 | [],M,x,h,_=>h
 | c::cs,M,x,h,hM=>by
  rw [Rcv.zmm] at hM ⊢;have:=yjn (back:=back) cs (zyo (back:=back) (c:=c) h zz0) zz0;rw [<- zy97];exact this
theorem ydt (h:LI N M l) {ps:List zay} (hp:∀ p∈ps,p.bytes.length<=120):LI N M {l with way:=zvf l.way ps} :=
 ⟨h.snd,h.rcv,h.small,yst ps _ h.way,fun p hq=>by rcases zzn ps _ p hq with hq | hq;exact h.bytes p hq;exact hp p hq⟩
theorem xcg (h:LI N M l) (path:Int):LI N M (told path l):=by
 unfold told;split
 . refine ydt h fun p hp=>?_
   rw [zy9] at hp;subst hp;have:=zqc [Rcv.zmp l.receiver] 120 zz5;dsimp only;omega
 . exact h
theorem yfw (h:LI N M l) {p:zay} (hp:p.bytes.length<=120) (hM:M+120<=2000000):LI N (M+120) (zgd l p):=by
 have hw:=(zuc p.bytes).1;have h2:LI N (M+120) (zjy l p).1:=(yjn (back:=p.back) (Pck.zfu p.bytes).1 (x:=(l,false)) h zz0).more zz0 hM;unfold zgd;split
 . exact h.more zz0 hM
 split
 . exact xcg h2 _
 . exact h2
theorem ztb (h:LI N M l):LI N M (emit l):=by
 have hw:=Snd.zcj h.snd.cfg;have hc:=Snd.yxe h.snd;have h2:LI N M {l with sender:=(Snd.zlk l.sender).1}:=⟨Snd.xbr h.snd,h.rcv,h.small,h.way,h.bytes⟩
 refine ydt h2 fun p hp=>?_
 have:=(zrc zz0 _ _ p hp).1;omega
theorem yio (h:LI N M l) (x:Step) (hN:N+1<=2 ^ 20) (hM:M+120<=2000000):LI (N+1) (M+120) (doS l x).1:=by
 have h0:LI (N+1) (M+120) l:=⟨h.snd.mono zz0 hN,h.rcv.more zz0,hM,h.way,h.bytes⟩
 unfold doS;split
 . split
   . rename_i e
     exact ztb (l:={l with sender:=Snd.zjm l.sender x.message}) ⟨Snd.zzt h.snd e hN,h0.rcv,hM,h.way,h.bytes⟩
   . exact h0
 split
 . split
   . exact h0
   split
   . exact h0
   rename_i p hp;have hb:=h.bytes p (zy4 hp);have he:∀ {N M:Nat},LI N M l->LI N M {l with way:=l.way.eraseIdx x.n.toNat}:=fun h =>
    ⟨h.snd,h.rcv,h.small,by show (l.way.eraseIdx _).length<=40;have:=h.way;rw [zy92];split<;>omega,fun q hq=>h.bytes q (zy65 hq)⟩
   split
   . refine ztb (ydt h0 fun q hq=>?_)
     rw [zy9] at hq;subst hq;exact hb
   . refine ztb ?_
     split
     . exact yfw (he ⟨h.snd.mono zz0 hN,h.rcv,h.small,h.way,h.bytes⟩) hb hM
     . exact he h0
 split
 . exact ztb (l:={l with sender:=Snd.tick l.sender}) ⟨Snd.yah h0.snd,h0.rcv,hM,h.way,h.bytes⟩
 . exact h0
theorem yld:∀ (a:List Step) {N M:Nat} {l:zer},LI N M l->N+a.length<=2 ^ 20->M+120*a.length<=2000000->LI (N+a.length) (M+120*a.length) (zqf l a).1
 | [],N,M,l,h,_,_=>h
 | x::a,N,M,l,h,h1,h2=>by
  simp only [zy6] at h1 h2 ⊢;have:=yld a (yio h x zz0 zz0) zz0 zz0;rw [show N+(a.length+1)=N+1+a.length by omega,show M+120*(a.length+1)=M+120+120*a.length by omega];exact this
end
theorem zze {c:Config} (h:Snd.zpe c=0):LI 0 0 (zoi c):=by
 have hw:=Snd.zcj h;have hl:(Rcv.yan c).zbi.length<=4:=by simp [Rcv.yan];omega
 have ht:∀ t∈(Rcv.yan c).zbi,t=0:=fun t ht=>(zy142.1 ht).2
 exact ⟨Snd.xeh h,⟨zy25 _,zy25 _,zy25 _,trivial,by simp [zoi,Rcv.yan],by simp [zoi,Rcv.yan],by show -1<=c.first-1;omega,by show c.first-1<=_;omega,fun t htt=>by rw [ht t htt];decide,fun t htt=>by rw [ht t htt];simp [zoi,Rcv.yan],by show (Rcv.yan c).zbi.length<_;omega⟩,by decide,by simp [zoi],by simp [zoi]⟩
end Ln
namespace Snd
open Ser
def FT (s:zab):Prop:=∀ f∈s.fates,1<=f/\f<=3
theorem FT.side {s t:zab} (h:FT s) (e:t.fates=s.fates):FT t:=by unfold FT;rw [e];exact h
theorem yqk {s:zab} (h:FT s) (id:Nat):FT (zev s id):=by
 intro f hf;rw [zfe] at hf;rcases zy44 hf with hf | rfl
 . exact h f hf
 . decide
section
variable {N:Nat} {s:zab}
theorem yiz:∀ (q:List zag) {s:zab},(∀ m∈q,0<=m.id)->FT s->FT (q.foldl zju s)
 | [],_,_,h=>h
 | m::q,s,hq,h=>by
  refine yiz q (fun x hx=>hq x zz29) ?_;unfold zju;split
  . rw [show m.id=((m.id.toNat:Nat):Int) by have:=hq m (by simp);omega];exact yqk h _
  . exact h
theorem yjc:∀ (q:List zbp) {s:zab},(∀ m∈q,0<=m.id)->FT s->FT (q.foldl zhk s)
 | [],_,_,h=>h
 | m::q,s,hq,h=>by
  refine yjc q (fun x hx=>hq x zz29) ?_;unfold zhk;split
  . rw [show m.id=((m.id.toNat:Nat):Int) by have:=hq m (by simp);omega];exact yqk h _
  . exact h
theorem yqa (hS:SI N s) (h:FT s):FT (expire s):=by
 obtain ⟨h2,-⟩:=zlx s.queue s hS fun m hm=>⟨(hS.queue m hm).id0,(hS.queue m hm).id1⟩
 exact yjc _ (fun x hx=>(h2.out x hx).id0) (yiz _ (fun m hm=>(hS.queue m hm).id0) h)
theorem ybo (p:zgn) (i path:Nat):(fly p i path).s.fates=p.s.fates:=by
 unfold fly;split<;>rfl
theorem zqp {path:Nat}:∀ (l:List Nat) (p:zgn),(l.foldl (zdf path) p).s.fates=p.s.fates
 | [],_=>rfl
 | i::l,p=>by
  rw [zy56,zqp l];unfold zdf;split
  . rfl
  . split
    . exact ybo _ _ _
    . rfl
theorem yni {p q:zgn} (h:next p=some q):q.s.fates=p.s.fates:=by
 obtain ⟨s,o⟩:=p;unfold next at h;dsimp only at h;split at h
 . cases h
 cases hm:s.queue[(zeq s).toNat]? with
 | none=>rw [hm] at h;cases h
 | some m =>
  rw [hm] at h;dsimp only at h;split at h
  . cases h
  . cases h
    exact ybo _ _ _
theorem ztr:∀ (n:Nat) (p:zgn),(zgx n p).s.fates=p.s.fates
 | 0,_=>rfl
 | n+1,p=>by
  rw [zgx];cases hq:next p with
  | none=>rfl
  | some q=>rw [show (zgx n q).s.fates=_ from ztr n q,yni hq]
theorem zyg (p:zgn):(forward p).s.fates=p.s.fates:=by unfold forward;split<;>rfl
theorem zud (hS:SI N s) (h:FT s):FT (zlk s).1:=by
 refine (yqa hS h).side ?_;show (zgx 61 (again (forward ⟨expire s,List.replicate s.paths.length []⟩))).s.fates=_;rw [ztr];exact (zqp _ _).trans (zyg _)
theorem xbv (h:FT s) (m:Message):FT (zjm s m):=by
 intro f hf;rcases zy11.1 (show f∈s.fates++[1] from hf) with hf | hf
 . exact h f hf
 . rw [zy9] at hf;subst hf;decide
theorem ynu (s:zab) (id:Nat) {f:Int} (h:1<=f/\f<=3):1<=settled s id f/\settled s id f<=3:=by
 unfold settled
 repeat' split
 all_goals omega
theorem xam (h:FT s) (c:Chunk):FT (yfh s c):=by
 unfold yfh;split
 . exact h
 split
 . exact h
 rw [zny];have hT:∀ p l,(zhs p (zhd s c (Sco.zha s.out s.cum c s.paths.length)) l).fates=s.fates:=fun p l=>by
  unfold zhs;split
  . rfl
  . split<;>rfl
 have hV:∀ b u,(zfy b u).fates=u.fates:=fun b u=>by unfold zfy;split<;>rfl
 intro f hf;have hf:f∈List.mapIdx _ _:=hf;obtain ⟨i,hi⟩:=zy46 hf;rw [zy76,hV,hT] at hi;cases hg:s.fates[i]? with
 | none=>rw [hg] at hi;cases hi
 | some g=>rw [hg] at hi;cases hi;exact ynu _ _ (h g (zy4 hg))
theorem ygu (part:Int) (s:zab) (i:Nat):(zib part s i).fates=s.fates:=by
 unfold zib;split
 . rfl
 split
 . rfl
 dsimp only;split<;>rfl
theorem ztm (part:Int):∀ (l:List Nat) (s:zab),(l.foldl (zib part) s).fates=s.fates
 | [],_=>rfl
 | i::l,s=>by rw [zy56,ztm part l,ygu]
theorem xcc (h:FT s):FT (tick s):=h.side (ztm _ _ _)
end
end Snd
namespace Ln
open Ser Snd
theorem yjl {back:Bool}:∀ (cs:List Chunk) {x:zer×Bool},FT x.1.sender->FT (cs.foldl (zhr back) x).1.sender
 | [],_,h=>h
 | c::cs,x,h=>by
  refine yjl (back:=back) cs ?_;unfold zhr;split
  . exact xam h c
  split
  . exact h
  split<;>exact h
theorem yzv {l:zer} (h:FT l.sender) (p:zay):FT (zgd l p).sender:=by
 have h2:FT (zjy l p).1.sender:=yjl (back:=p.back) _ (x:=(l,false)) h;unfold zgd;split
 . exact h
 split
 . unfold told;split<;>exact h2
 . exact h2
theorem xdm {N M:Nat} {l:zer} (hl:LI N M l) (h:FT l.sender) (x:Step) (hN:N+1<=2 ^ 20) (hM:M+120<=2000000):FT (doS l x).1.sender:=by
 unfold doS;split
 . split
   . rename_i e
     exact zud (zzt hl.snd e hN) (xbv h _)
   . exact h
 split
 . split
   . exact h
   split
   . exact h
   rename_i p hp;have hb:=hl.bytes p (zy4 hp);split
   . exact zud hl.snd h
   . split
     . have hli:LI N M {l with way:=l.way.eraseIdx x.n.toNat}:=⟨hl.snd,hl.rcv,hl.small,by show (l.way.eraseIdx _).length<=40;have:=hl.way;rw [zy92];split<;>omega,fun q hq=>hl.bytes q (zy65 hq)⟩
       exact zud (yfw hli hb hM).snd (yzv (l:={l with way:=l.way.eraseIdx x.n.toNat}) h p)
     . exact zud hl.snd h
 split
 . exact zud (yah hl.snd) (xcc h)
 . exact h
theorem ylb:∀ (a:List Step) {N M:Nat} {l:zer},LI N M l->FT l.sender->N+a.length<=2 ^ 20->M+120*a.length<=2000000->FT (zqf l a).1.sender
 | [],_,_,_,_,h,_,_=>h
 | x::a,N,M,l,hl,h,h1,h2=>by
  simp only [zy6] at h1 h2;exact ylb a (yio hl x zz0 zz0) (xdm hl h x zz0 zz0) zz0 zz0
end Ln
namespace Rcv
open Srt Jn Ser
theorem ycp {n:Nat}:∀ {S:List zaw} {i:Nat} {b:List UInt8},zkr n i S=some b->∀ k (hk:k<S.length),S[k].chunk.part=((i+k:Nat):Int)/\S[k].chunk.last=decide (i+k+1=n)
 | p::r,i,b,h,k,hk=>by
  rw [zkr] at h;split at h
  . rename_i c
    obtain ⟨d,hd,-⟩:=zy24.1 h;cases k with
    | zero=>exact ⟨c.1,c.2⟩
    | succ k =>
     have:=ycp hd k (by simpa using hk);rw [zy151,show i+(k+1)=i+1+k by omega];exact this
  . cases h
def msg (s j:Nat) (X:List Chunk):List Chunk:=X.filter fun c=>decide (c.stream=s)&&decide (c.mid=j)
section
variable {C X Y:List Chunk} {M:Nat->List (List UInt8)} {r:Receiver} {T:Nat->Nat}
end
end Rcv
namespace Sch
section
variable {α:Type} {p:α->Bool}
theorem zyx:∀ {l:List α} {k:Nat},0<=zbt p k l->∃ i,∃ h:i<l.length,zbt p k l=((k+i:Nat):Int)/\p l[i]=true/\∀ j,(hj:j<i)->p (l[j]'(Nat.lt_trans hj h))=false
 | [],k,h=>by simp [zbt] at h
 | y::r,k,h=>by
  simp only [zbt] at h ⊢;by_cases hp:p y=true
  . exact ⟨0,by simp,by rw [zy1 hp];simp,by simpa using hp,fun j hj=>absurd hj zz0⟩
  . rw [zy0 hp] at h ⊢
    obtain ⟨i,h1,h2,h3,h4⟩:=zyx h;refine ⟨i+1,by simp;omega,by rw [h2];congr 1;omega,by simpa using h3,fun j hj=>?_⟩;cases j with
    | zero=>simpa using hp
    | succ j=>simpa using h4 j zz0
end
def Good (q:List zag) (r:Int):Prop:=∃ k,∃ h:k<q.length,r=k/\∀ m∈q.take k,m.message.stream≠(q[k]).message.stream
theorem zpm {q:List zag} {st:Int} (h:0<=first q st):Good q (first q st):=by
 obtain ⟨i,h1,h2,h3,h4⟩:=zyx h;refine ⟨i,h1,by rw [first,h2];simp,fun m hm=>?_⟩;obtain ⟨j,hj,rfl⟩:=zy118 hm;have hji:j<i:=by simp at hj;omega
 have h5:=h4 j hji;rw [List.getElem_take];simp only [zy37,zy15] at h3 h5;rw [h3];exact h5
theorem zpg {q:List zag} {last n:Int}:∀ {j k:Nat},0<=after q last n k j->Good q (after q last n k j)
 | 0,k,h=>by simp [after] at h
 | j+1,k,h=>by
  simp only [after] at h ⊢;split
  . rename_i h1;exact zpm h1
  . rename_i h1
    rw [zy0 h1] at h;exact zpg h
theorem ydu {q:List zag}:∀ {j k:Nat},0<=zfg q k j->Good q (zfg q k j)
 | 0,k,h=>by simp [zfg] at h
 | j+1,k,h=>by
  simp only [zfg] at h ⊢;split
  . rename_i h1;exact zpm h1
  . rename_i h1
    rw [zy0 h1] at h;exact ydu h
end Sch
namespace Gh
open Ser Srt Jn
structure Prt where
 id:Nat
 chunk:Chunk
def Cls (a b:Chunk):Prop:=a.stream=b.stream/\a.ordered=b.ordered
theorem Cls.symm {a b:Chunk} (h:Cls a b):Cls b a:=⟨h.1.symm,h.2.symm⟩
theorem Cls.trans {a b c:Chunk} (h:Cls a b) (k:Cls b c):Cls a c:=⟨h.1.trans k.1,h.2.trans k.2⟩
structure znr (P:Int) (m:Message) (x:Chunk):Prop where
 part0:0<=x.part
 inn:x.part*P<m.data.length
 data:x.data=(m.data.drop (x.part*P).toNat).take P.toNat
 last:x.last=decide ((m.data.length:Int)<=x.part*P+P)
structure HI (c:Config) (L:List Message) (H:List Prt):Prop where
 tag:∀ (i:Nat) x,H[i]?=some x->x.chunk.kind=1/\x.chunk.tag=tag (c.first+i)/\x.chunk.zax=[]/\x.chunk.room=0/\x.chunk.zbs=[]
 msg:∀ x∈H,∃ m,L[x.id]?=some m/\x.chunk.stream=m.stream/\x.chunk.ordered=m.ordered/\(x.chunk.data≠[]->znr c.part m x.chunk)
 mid:∀ x∈H,0<=x.chunk.mid/\x.chunk.mid<H.length
 key:∀ x∈H,∀ y∈H,Cls x.chunk y.chunk->(x.id<y.id↔x.chunk.mid<y.chunk.mid)
 order:∀ (i j:Nat) x y,i<j->H[i]?=some x->H[j]?=some y->Cls x.chunk y.chunk->x.id<=y.id
 part:∀ (i j:Nat) x y,i<j->H[i]?=some x->H[j]?=some y->x.id=y.id->x.chunk.part<y.chunk.part
section
variable {c:Config} {L:List Message} {H:List Prt}
theorem HI.cls (h:HI c L H) {x y:Prt} (hx:x∈H) (hy:y∈H) (e:x.id=y.id):Cls x.chunk y.chunk:=by
 obtain ⟨m,h1,h2,h3,-⟩:=h.msg x hx;obtain ⟨n,k1,k2,k3,-⟩:=h.msg y hy;rw [e,k1] at h1;cases h1;exact ⟨h2.trans k2.symm,h3.trans k3.symm⟩
theorem HI.same (h:HI c L H) {x y:Prt} (hx:x∈H) (hy:y∈H) (e:Cls x.chunk y.chunk):x.id=y.id↔x.chunk.mid=y.chunk.mid:=by
 have h1:=h.key x hx y hy e;have h2:=h.key y hy x hx e.symm;omega
theorem HI.at (h:HI c L H) {i j:Nat} {x y:Prt} (hx:H[i]?=some x) (hy:H[j]?=some y) (e:x.id=y.id) (e2:x.chunk.part=y.chunk.part):i=j:=by
 rcases Nat.lt_trichotomy i j with hl | hl | hl
 . have:=h.part i j x y hl hx hy e;omega
 . exact hl
 . have:=h.part j i y x hl hy hx e.symm;omega
end
theorem ycq {P:Int} {m:Message} (hP:1<=P) {n:Nat}:∀ {S:List zaw} {i:Nat} {b:List UInt8},zkr n i S=some b->(∀ p∈S,znr P m p.chunk)->S≠[]->n=i+S.length->b=m.data.drop (i*P).toNat
 | [],_,_,_,_,h,_=>absurd rfl h
 | p::r,i,b,h,hp,_,hn=>by
  rw [zkr] at h;split at h
  . rename_i c
    obtain ⟨d,hd,rfl⟩:=zy24.1 h;have hq:=hp p zz4;have h0:0<=(i:Int)*P:=zy129 zz0 zz0;have e1:((i+1:Nat):Int)*P=i*P+P:=by push_cast;rw [Int.add_mul,Int.one_mul]
    have e2:(((i+1:Nat):Int)*P).toNat=(i*P).toNat+P.toNat:=by rw [e1];omega
    rw [hq.data,c.1];cases r with
    | nil =>
     rw [zkr] at hd;cases hd;have hl:=hq.last;rw [c.2,c.1] at hl;rw [zy19 (by simp at hn;omega)] at hl;have hl:=zy36 hl.symm;rw [zy7,zy32 (by rw [zy60];omega)]
    | cons q r =>
     have ih:=ycq hP hd (fun x hx=>hp x zz29) zz4 (by simp at hn ⊢;omega);rw [ih,e2,<- zy114,zy23]
  . cases h
theorem yke {P:Int} {m:Message} (hP:1<=P) {l:List zaw} {b:List UInt8} (h:join l=some b) (hp:∀ p∈l,znr P m p.chunk):b=m.data:=by
 unfold join at h;split at h
 . cases h
 . rename_i hl
   have hs:=zgm (key:=ck) l;have:=ycq hP h (fun p hp'=>hp p (zkl.mem_iff.1 hp')) (by intro e;rw [e] at hs;exact hl (List.length_eq_zero_iff.1 hs.symm)) zz0
   simpa using this
theorem zpr {l:List zaw} {b:List UInt8} (h:join l=some b):∀ i:Nat,i<l.length->∃ p∈l,p.chunk.part=(i:Int)/\p.chunk.last=decide (i+1=l.length):=by
 intro i hi;unfold join at h;split at h
 . cases h
 . have hs:=zgm (key:=ck) l
   obtain ⟨g1,g2⟩:=Rcv.ycp h i zz0;rw [zy66] at g1 g2;exact ⟨_,zkl.mem_iff.1 (zy72 zz0),g1,g2⟩
theorem ydd:∀ (k:Nat) (l:List Nat),l.Nodup->(∀ x∈l,x<k)->l.length<=k
 | 0,l,_,h=>by
  cases l with
  | nil=>simp
  | cons x r=>exact absurd (h x zz4) zz0
 | k+1,l,hn,h=>by
  have ih:=ydd k (l.erase k) (hn.erase k) (fun x hx=>by
   have h1:=h x (List.mem_of_mem_erase hx);have h2:x≠k:=fun e=>by subst e;exact (hn.not_mem_erase) hx
   omega)
  rw [List.length_erase] at ih;split at ih<;>omega
theorem ykd {n:Nat}:∀ {S:List zaw} {i:Nat},(∀ k (hk:k<S.length),S[k].chunk.part=((i+k:Nat):Int)/\S[k].chunk.last=decide (i+k+1=n))->∃ b,zkr n i S=some b
 | [],i,_=>⟨[],rfl⟩
 | p::r,i,h=>by
  have h0:=h 0 zz4;obtain ⟨b,hb⟩:=ykd (S:=r) (i:=i+1) fun k hk=>by
   have:=h (k+1) (by simpa using hk);rw [zy151] at this;rw [show i+1+k=i+(k+1) by omega];exact this
  refine ⟨p.chunk.data++b,?_⟩;rw [zkr,zy1 ⟨by simpa using h0.1,by simpa using h0.2⟩,hb];rfl
theorem zwl {P:Int} {m:Message} (hP:1<=P) {l:List zaw} (h:∀ p∈l,znr P m p.chunk) (hd:l.Pairwise fun p q=>p.chunk.part≠q.chunk.part) (hm:m.data≠[])
 (hw:∀ j:Nat,(j:Int)*P<m.data.length->∃ p∈l,p.chunk.part=j):∃ b,join l=some b:=by
 have hmul:∀ {a b:Int},a<=b->a*P<=b*P:=fun hab=>zy101 hab zz0
 have h0:(0:Int)<m.data.length:=by have:=zy27.2 hm;omega
 have hnd:(l.map fun p=>p.chunk.part.toNat).Nodup:=by
  refine List.Pairwise.map _ (fun a b=>?_) (List.Pairwise.imp_of_mem (fun {a b} ha hb hab=>(⟨ha,hb,hab⟩:a∈l/\b∈l/\a.chunk.part≠b.chunk.part)) hd);rintro ⟨ha,hb,hab⟩ e;have:=(h a ha).part0;have:=(h b hb).part0;omega
 have hsl:=zgm (key:=ck) l;have hsm:∀ p,p∈srt ck l↔p∈l:=fun p=>zkl.mem_iff
 have hall:∀ i,i<l.length->∃ p∈l,p.chunk.part=(i:Int):=by
  intro i hi;by_cases c:(i:Int)*P<m.data.length
  . exact hw i c
  . exfalso
    have:=ydd i _ hnd fun x hx=>by
     obtain ⟨p,hp,rfl⟩:=zy18.1 hx;have h1:=(h p hp).inn;have h2:=(h p hp).part0;apply Classical.byContradiction;intro hc;have:=hmul (show (i:Int)<=p.chunk.part by omega);omega
    rw [zy3] at this;omega
 have hturn:=yfk (zrk (key:=ck) (l:=l)) fun i hi=>by
  obtain ⟨p,hp,e⟩:=hall i zz0;exact ⟨p,(hsm p).2 hp,e⟩
 have hbnd:(l.length:Int)*P>=m.data.length:=by
  apply Classical.byContradiction;intro hc;obtain ⟨p,hp,e⟩:=hw l.length zz0;obtain ⟨k,hk,e2⟩:=zy118 ((hsm p).2 hp);have:=hturn k hk;rw [e2] at this;omega
 have hlne:l≠[]:=by
  rintro rfl;have:(([]:List zaw).length:Int)*P=0:=by simp
  omega
 obtain ⟨b,hb⟩:=ykd (n:=l.length) (S:=srt ck l) (i:=0) fun k hk=>by
  have hp:=hturn k hk;refine ⟨by rw [hp];simp,?_⟩;have hq:=h _ ((hsm _).1 (zy72 hk));rw [hq.last,hp,zy157];have e1:((k+1:Nat):Int)*P=k*P+P:=by push_cast;rw [Int.add_mul,Int.one_mul]
  constructor
  . intro hle
    apply Classical.byContradiction;intro hc;obtain ⟨p,hp2,e⟩:=hall (k+1) zz0;have:=(h p hp2).inn;rw [e] at this;omega
  . intro e
    have:(l.length:Int)*P=k*P+P:=by rw [<- e1];congr 1;omega
    omega
 exact ⟨b,by rw [join,zy0 hlne];exact hb⟩
theorem ynj {turns:Int} {s:zho} {q:List zag} (h:0<=Sch.next turns s q):∃ k,∃ hk:k<q.length,Sch.next turns s q=k/\((q[k]).id=s.hand\/∀ m∈q.take k,m.message.stream≠(q[k]).message.stream):=by
 have good:∀ {r:Int},Sch.Good q r->∃ k,∃ hk:k<q.length,r=k/\((q[k]).id=s.hand\/∀ m∈q.take k,m.message.stream≠(q[k]).message.stream):=by
  rintro r ⟨k,hk,e,hg⟩;exact ⟨k,hk,e,.inr hg⟩
 unfold Sch.next at h ⊢;by_cases c1:(q.length:Int)=0
 . rw [zy1 c1] at h;omega
 rw [zy0 c1] at h ⊢;by_cases c2:(s.had.length:Int)=0
 . rw [zy1 c2] at h;omega
 rw [zy0 c2] at h ⊢;by_cases c3:turns=2
 . rw [zy1 c3] at h ⊢
   by_cases c4:Sch.ztj s q>=0
   . rw [zy1 c4]
     obtain ⟨i,h1,h2,h3,-⟩:=Sch.zyx (p:=fun m:zag=>m.id==s.hand) (l:=q) (k:=0) c4;exact ⟨i,h1,by rw [Sch.ztj,h2,zy66],.inl (by simpa using h3)⟩
   . rw [zy0 c4] at h ⊢
     exact good (Sch.zpg h)
 rw [zy0 c3] at h ⊢;by_cases c4:turns=3
 . rw [zy1 c4] at h ⊢;exact good (Sch.zpg h)
 rw [zy0 c4] at h ⊢;by_cases c5:turns=4
 . rw [zy1 c5] at h ⊢;exact good (Sch.ydu h)
 rw [zy0 c5] at h ⊢;by_cases c6:turns=5
 . rw [zy1 c6] at h ⊢
   unfold Sch.least at h ⊢;split at h
   . omega
   . rename_i c7;rw [zy0 c7];exact good (Sch.zpm h)
 rw [zy0 c6];exact ⟨0,by omega,rfl,.inr zz4⟩
end Gh
namespace Gh
open Ser Snd
def Of (m:zag) (x:Chunk):Prop:=x.stream=m.message.stream/\x.ordered=m.message.ordered
def Whole (c:Config) (L:List Message) (H:List Prt) (id:Nat):Prop:=∀ m,L[id]?=some m->∀ j:Nat,(j:Int)*c.part<m.data.length->∃ y∈H,y.id=id/\y.chunk.part=j/\y.chunk.data≠[]
def yur (s:zab) (x:Chunk):Int:=s.mids[(x.stream+if x.ordered then 0 else s.config.streams).toNat]?.getD 0
structure Bgn (H:List Prt) (m:zag):Prop where
 some:0<m.parts
 one:∃ y∈H,(y.id:Int)=m.id/\y.chunk.mid=m.mid/\Of m y.chunk
 top:∀ y∈H,Of m y.chunk->(y.id:Int)<=m.id
 part:∀ y∈H,(y.id:Int)=m.id->y.chunk.part<m.parts
 all:∀ j:Nat,(j:Int)<m.parts->∃ y∈H,(y.id:Int)=m.id/\y.chunk.part=j/\y.chunk.data≠[]
structure GS (c:Config) (L:List Message) (H:List Prt) (A:Nat->Prop) (s:zab):Prop where
 cfg:s.config=c
 hi:HI c L H
 len:c.first+H.length=s.next
 out:∀ (k:Nat) x,s.out[k]?=some x->∃ y,H[(s.cum+1-c.first).toNat+k]?=some y/\x.id=(y.id:Int)/\x.chunk=y.chunk
 stop:∀ x∈s.out,x.chunk.data=[]->x.state=4\/x.state=0
 gone:∀ x∈s.out,x.state=4->s.fates[x.id.toNat]?=some 3
 zgd:∀ (k:Nat) x,s.out[k]?=some x->x.state=2->A ((s.cum+1-c.first).toNat+k)
 done:∀ (i:Nat) y,H[i]?=some y->c.first+i<=s.cum->A i\/s.fates[y.id]?=some 3
 ids:∀ m∈s.queue,0<=m.id
 zfa:s.queue.Pairwise fun a b=>a.id<b.id
 hand:∀ m∈s.queue,m.id=s.sched.hand->0<=m.mid
 handn:s.sched.hand<L.length
 fresh:∀ m∈s.queue,m.mid<0->m.parts=0/\∀ y∈H,Of m y.chunk->(y.id:Int)<m.id
 begun:∀ m∈s.queue,0<=m.mid->Bgn H m
 mids:∀ y∈H,y.chunk.mid<yur s y.chunk
 midn:∀ n∈s.mids,0<=n/\n<=H.length
 whole:∀ id,id<L.length->s.fates[id]?≠some 3->(∃ m∈s.queue,m.id=(id:Int))\/Whole c L H id
 told:∀ id,s.fates[id]?=some 2->∀ (i:Nat) y,H[i]?=some y->y.id=id->A i
section
variable {c:Config} {L:List Message} {H:List Prt} {A:Nat->Prop} {s:zab}
theorem GS.congr {t:zab} (h:GS c L H A s) (e1:t.config=s.config) (e2:t.out=s.out) (e3:t.next=s.next) (e4:t.cum=s.cum) (e5:t.fates=s.fates) (e6:t.queue=s.queue) (e7:t.sched.hand=s.sched.hand) (e8:t.mids=s.mids):GS c L H A t:=by
 obtain ⟨cfg,clock,q,⟨la,ha,hd⟩,o,ps,cu,nx,ro,mi,fa,fo,re⟩:=t;dsimp only at e1 e2 e3 e4 e5 e6 e7 e8;subst e1 e2 e3 e4 e5 e6 e7 e8;exact ⟨h.cfg,h.hi,h.len,h.out,h.stop,h.gone,h.zgd,h.done,h.ids,h.zfa,h.hand,h.handn,h.fresh,h.begun,h.mids,h.midn,h.whole,h.told⟩
theorem GS.more {B:Nat->Prop} (h:GS c L H A s) (hB:∀ i,A i->B i):GS c L H B s :=
 ⟨h.cfg,h.hi,h.len,h.out,h.stop,h.gone,fun k x h1 h2=>hB _ (h.zgd k x h1 h2),fun i y h1 h2=>(h.done i y h1 h2).imp (hB i) id,h.ids,h.zfa,h.hand,h.handn,h.fresh,h.begun,h.mids,h.midn,h.whole,fun id h1 i y h2 h3=>hB i (h.told id h1 i y h2 h3)⟩
theorem zes {α:Type} {l:List α} {y x:α} {i:Nat} (h:(l++[y])[i]?=some x):l[i]?=some x\/(i=l.length/\x=y):=by
 rcases zy62 i l.length with hi | hi
 . rw [zy22 hi] at h;exact .inl h
 . rw [zy35 hi] at h
   rcases zy109 (i-l.length) with h0 | h0
   . rw [h0] at h;cases h;exact .inr ⟨by omega,rfl⟩
   . rw [zy42 (by simp;omega)] at h;cases h
theorem zio {α:Type} {l E:List α} {x:α} {i:Nat} (h:l[i]?=some x):(l++E)[i]?=some x:=by
 rw [zy22 (zy10.1 h).1];exact h
theorem ypk {α:Type} (l:List α) (y:α):(l++[y])[l.length]?=some y:=by simp
theorem zdz {α:Type} {l:List α} {x:α} {i:Nat} (h:l[i]?=some x):i<l.length:=(zy10.1 h).1
theorem HI.push (h:HI c L H) {y:Prt} (t:y.chunk.kind=1/\y.chunk.tag=Ser.tag (c.first+H.length)/\y.chunk.zax=[]/\y.chunk.room=0/\y.chunk.zbs=[])
 (m:∃ m,L[y.id]?=some m/\y.chunk.stream=m.stream/\y.chunk.ordered=m.ordered/\(y.chunk.data≠[]->znr c.part m y.chunk)) (n:0<=y.chunk.mid/\y.chunk.mid<=H.length)
 (k:∀ x∈H,Cls x.chunk y.chunk->x.id<=y.id/\(x.id<y.id↔x.chunk.mid<y.chunk.mid)/\x.chunk.mid<=y.chunk.mid) (p:∀ x∈H,x.id=y.id->x.chunk.part<y.chunk.part):HI c L (H++[y]):=by
 refine ⟨fun i x hx=>?_,fun x hx=>?_,fun x hx=>?_,fun x hx z hz hc=>?_,fun i j x z hij hx hz hc=>?_,fun i j x z hij hx hz he=>?_⟩
 . rcases zes hx with hx' | ⟨e1,e2⟩
   . exact h.tag i x hx'
   . rw [e1,e2];exact t
 . rcases zy11.1 hx with hx' | hx'
   . exact h.msg x hx'
   . rw [zy9.1 hx'];exact m
 . rw [zy8,zy50]
   rcases zy11.1 hx with hx' | hx'
   . have:=h.mid x hx';push_cast;omega
   . rw [zy9.1 hx'];push_cast;omega
 . rcases zy11.1 hx with hx' | hx'
   . rcases zy11.1 hz with hz' | hz'
     . exact h.key x hx' z hz' hc
     . rw [zy9.1 hz'] at hc ⊢;exact (k x hx' hc).2.1
   . rw [zy9.1 hx'] at hc ⊢
     rcases zy11.1 hz with hz' | hz'
     . have:=k z hz' hc.symm;omega
     . rw [zy9.1 hz'];omega
 . rcases zes hz with hz' | ⟨e1,e2⟩
   . rcases zes hx with hx' | ⟨e3,e4⟩
     . exact h.order i j x z hij hx' hz' hc
     . have:=zdz hz';omega
   . rcases zes hx with hx' | ⟨e3,e4⟩
     . rw [e2] at hc ⊢;exact (k x (zy4 hx') hc).1
     . omega
 . rcases zes hz with hz' | ⟨e1,e2⟩
   . rcases zes hx with hx' | ⟨e3,e4⟩
     . exact h.part i j x z hij hx' hz' he
     . have:=zdz hz';omega
   . rcases zes hx with hx' | ⟨e3,e4⟩
     . rw [e2] at he ⊢;exact p x (zy4 hx') he
     . omega
theorem Whole.more {E:List Prt} {id:Nat} (h:Whole c L H id):Whole c L (H++E) id:=fun m hm j hj=>by
 obtain ⟨y,h1,h2⟩:=h m hm j hj;exact ⟨y,zy61 _ h1,h2⟩
theorem GS.num (h:GS c L H A s) {N:Nat} (hs:SI N s):(s.cum+1-c.first).toNat+s.out.length=H.length:=by
 have h1:=h.len;have h2:=hs.next;have h3:=hs.cum;rw [h.cfg] at h3;omega
theorem GS.few (h:GS c L H A s) {N:Nat} (hs:SI N s):H.length<=61*N:=by
 have h1:=h.len;have h3:=hs.owes;have h4:=zzi (by have:=zcj hs.cfg;omega) hs.queue;have h5:=hs.many;rw [h.cfg] at h3;omega
theorem ybh (id:Int):∀ (q:List zag) (s:zab),(∀ m∈q,¬ (m.id=id/\m.parts>0))->q.foldl (zef id) s=s
 | [],_,_=>rfl
 | m::q,s,h=>by
  rw [zy56,show zef id s m=s from zy0 (h m (by simp))];exact ybh id q s fun x hx=>h x zz29
theorem yiu (id:Int):∀ (q:List zag) (s:zab),q.Pairwise (fun a b=>a.id<b.id)->q.foldl (zef id) s=s\/∃ m∈q,m.id=id/\m.parts>0/\q.foldl (zef id) s={s with out:=s.out++[zhh s.next m],next:=W (s.next+1)}
 | [],_,_=>.inl rfl
 | m::q,s,h=>by
  obtain ⟨h1,h2⟩:=zy124.1 h;rw [zy56];by_cases c:m.id=id/\m.parts>0
  . right
    refine ⟨m,by simp,c.1,c.2,?_⟩;rw [show zef id s m={s with out:=s.out++[zhh s.next m],next:=W (s.next+1)} from zy1 c];exact ybh id q _ fun x hx hh=>by have:=h1 x hx;omega
  . rw [show zef id s m=s from zy0 c]
    rcases yiu id q s h2 with h3 | ⟨x,hx,h3⟩
    . exact .inl h3
    . exact .inr ⟨x,by simp [hx],h3⟩
theorem GS.fate (h:GS c L H A s) (id:Nat):GS c L H A {s with fates:=s.fates.set id 3}:=by
 have hg:∀ k:Nat,s.fates[k]?=some 3->(s.fates.set id 3)[k]?=some 3:=fun k hk=>by
  by_cases e:id=k
  . subst e;rw [zy20 (zdz hk)]
  . rw [zy49 e];exact hk
 refine ⟨h.cfg,h.hi,h.len,h.out,h.stop,fun x hx h4=>hg _ (h.gone x hx h4),h.zgd,fun i y h1 h2=>(h.done i y h1 h2).imp (fun z=>z) (hg _),h.ids,h.zfa,h.hand,h.handn,h.fresh,h.begun,h.mids,h.midn,fun k hk h3=>?_,fun k h2=>?_⟩
 . exact h.whole k hk fun h5=>h3 (hg k h5)
 . have h2:(s.fates.set id 3)[k]?=some 2:=h2
   by_cases e:id=k
   . subst e
     rcases zy62 id s.fates.length with hl | hl
     . rw [zy20 hl] at h2;cases h2
     . rw [zy42 (by rw [zy26];exact hl)] at h2;cases h2
   . rw [zy49 e] at h2;exact h.told k h2
theorem GS.leave (h:GS c L H A s) {id:Nat} (hf:s.fates[id]?=some 3) {w:Int} (hw:w=s.sched.hand\/w=-1):GS c L H A {s with queue:=s.queue.filter (fun m=>decide (m.id≠(id:Int))),sched:={s.sched with hand:=w}}:=by
 have hm:∀ m∈s.queue.filter (fun m=>decide (m.id≠(id:Int))),m∈s.queue:=fun m hm=>(zy40.1 hm).1
 refine ⟨h.cfg,h.hi,h.len,h.out,h.stop,h.gone,h.zgd,h.done,fun m h1=>h.ids m (hm m h1),h.zfa.filter _,fun m h1 h2=>?_,?_,fun m h1=>h.fresh m (hm m h1),fun m h1=>h.begun m (hm m h1),h.mids,h.midn,fun k hk h3=>?_,h.told⟩
 . have h2:m.id=w:=h2
   rcases hw with hw | hw
   . exact h.hand m (hm m h1) (by rw [h2,hw])
   . have:=h.ids m (hm m h1);omega
 . have:=h.handn
   show w<_;rcases hw with hw | hw<;>omega
 . rcases h.whole k hk h3 with ⟨m,h4,h5⟩ | h4
   . by_cases e:k=id
     . subst e;exact absurd hf h3
     . exact .inl ⟨m,zy40.2 ⟨h4,zy19 zz0⟩,h5⟩
   . exact .inr h4
theorem GS.endp (h:GS c L H A s) {N:Nat} (hs:(s.cum+1-c.first).toNat+s.out.length=H.length) (hc:c.first-1<=s.cum) (hfew:H.length<2 ^ 30) {m:zag} (hb:Bgn H m) (h0:0<=m.id) (hq:∀ q∈s.queue,q.id≠m.id) (hf:s.fates[m.id.toNat]?=some 3) (hmid:m.mid<=H.length/\0<=m.mid) (hN:H.length<=N) (hN2:N<65536) :
 GS c L (H++[⟨m.id.toNat,(zhh s.next m).chunk⟩]) A {s with out:=s.out++[zhh s.next m],next:=s.next+1}:=by
 obtain ⟨y0,y1,y2,y3,y4⟩:=hb.one;have hcl:∀ x:Prt,Cls x.chunk (zhh s.next m).chunk->Of m x.chunk:=fun x hx=>⟨hx.1,hx.2⟩
 have htag:tag m.mid=m.mid:=by unfold tag;omega
 have hyid:y0.id=m.id.toNat:=by omega
 have hln:=h.len;have yqw:HI c L (H++[⟨m.id.toNat,(zhh s.next m).chunk⟩]):=by
  refine h.hi.push ⟨rfl,?_,rfl,rfl,rfl⟩ ?_ ?_ ?_ ?_
  . show tag s.next=_;rw [<- hln]
  . obtain ⟨w,w1,w2,w3,-⟩:=h.hi.msg y0 y1
    exact ⟨w,by show L[m.id.toNat]?=_;rw [<- hyid];exact w1,by show m.message.stream=_;rw [<- y4.1];exact w2,by show m.message.ordered=_;rw [<- y4.2];exact w3,fun hd=>absurd rfl hd⟩
  . show 0<=tag m.mid/\tag m.mid<=_;rw [htag];omega
  . intro x hx hxc
    have h1:=hb.top x hx (hcl x hxc);have h2:Cls x.chunk y0.chunk:=⟨(hcl x hxc).1.trans y4.1.symm,(hcl x hxc).2.trans y4.2.symm⟩
    have h3:=h.hi.key x hx y0 y1 h2;have h4:=h.hi.key y0 y1 x hx h2.symm;show x.id<=m.id.toNat/\(x.id<m.id.toNat↔x.chunk.mid<tag m.mid)/\x.chunk.mid<=tag m.mid;rw [htag,<- y3,<- hyid];omega
  . intro x hx he
    show x.chunk.part<m.parts;exact hb.part x hx (by have he:x.id=m.id.toNat:=he;omega)
 have hmem:∀ x∈H,x∈H++[(⟨m.id.toNat,(zhh s.next m).chunk⟩:Prt)]:=fun x hx=>zy61 _ hx
 refine ⟨h.cfg,yqw,?_,fun k x hx=>?_,fun x hx hd=>?_,fun x hx h4=>?_,fun k x hx h2=>?_,fun i y hy hle=>?_,h.ids,h.zfa,h.hand,h.handn,fun q hq' hmn=>?_,fun q hq' hmn=>?_,fun y hy=>?_,fun n hn=>?_,fun k hk h3=>?_,fun k h2 i y hy he=>?_⟩
 . show c.first+((H++[_]).length:Int)=s.next+1
   rw [zy8,zy50];push_cast;omega
 . have hx:(s.out++[zhh s.next m])[k]?=some x:=hx
   rcases zes hx with hx | ⟨rfl,rfl⟩
   . obtain ⟨y,h1,h2⟩:=h.out k x hx
     exact ⟨y,zio h1,h2⟩
   . exact ⟨⟨m.id.toNat,(zhh s.next m).chunk⟩,by show (H++[_])[(s.cum+1-c.first).toNat+s.out.length]?=_;rw [hs];exact ypk _ _,by show m.id=(m.id.toNat:Int);omega,rfl⟩
 . rcases zy11.1 hx with hx | hx
   . exact h.stop x hx hd
   . rw [zy9] at hx;subst hx;exact .inr rfl
 . rcases zy11.1 hx with hx | hx
   . exact h.gone x hx h4
   . rw [zy9] at hx;subst hx;cases h4
 . have hx:(s.out++[zhh s.next m])[k]?=some x:=hx
   rcases zes hx with hx | ⟨rfl,rfl⟩
   . exact h.zgd k x hx h2
   . cases h2
 . rcases zes hy with hy | ⟨rfl,rfl⟩
   . exact h.done i y hy hle
   . have hle:c.first+(H.length:Int)<=s.cum:=hle
     omega
 . obtain ⟨f1,f2⟩:=h.fresh q hq' hmn
   refine ⟨f1,fun y hy hof=>?_⟩;rcases zy11.1 hy with hy | hy
   . exact f2 y hy hof
   . rw [zy9] at hy;subst hy
     have:=f2 y0 y1 ⟨y4.1.trans hof.1,y4.2.trans hof.2⟩;show (m.id.toNat:Int)<q.id;omega
 . have b:=h.begun q hq' hmn
   obtain ⟨z0,z1,z2⟩:=b.one;refine ⟨b.some,⟨z0,hmem z0 z1,z2⟩,fun y hy hof=>?_,fun y hy he=>?_,fun j hj=>?_⟩
   . rcases zy11.1 hy with hy | hy
     . exact b.top y hy hof
     . rw [zy9] at hy;subst hy
       have:=b.top y0 y1 ⟨y4.1.trans hof.1,y4.2.trans hof.2⟩;show (m.id.toNat:Int)<=q.id;omega
   . rcases zy11.1 hy with hy | hy
     . exact b.part y hy he
     . rw [zy9] at hy;subst hy
       have he:(m.id.toNat:Int)=q.id:=he;exact absurd zz0 (hq q hq')
   . obtain ⟨w,w1,w2⟩:=b.all j hj
     exact ⟨w,hmem w w1,w2⟩
 . rcases zy11.1 hy with hy | hy
   . exact h.mids y hy
   . rw [zy9] at hy;subst hy
     have:=h.mids y0 y1;show tag m.mid<yur s (zhh s.next m).chunk;rw [htag,<- y3];have e:yur s (zhh s.next m).chunk=yur s y0.chunk:=by
      unfold yur;rw [y4.1,y4.2];rfl
     rw [e];exact this
 . have:=h.midn n hn
   rw [zy8,zy50];push_cast;omega
 . rcases h.whole k hk h3 with h4 | h4
   . exact .inl h4
   . exact .inr h4.more
 . rcases zes hy with hy | ⟨rfl,rfl⟩
   . exact h.told k h2 i y hy he
   . have he:m.id.toNat=k:=he
     subst he;have h2:s.fates[m.id.toNat]?=some 2:=h2;rw [hf] at h2;cases h2
theorem GS.mapOut (h:GS c L H A s) {g:zbp->zbp} (hg:∀ x,(g x).id=x.id/\(g x).chunk=x.chunk) (h1:∀ x∈s.out,x.chunk.data=[]->x.state=4\/x.state=0->(g x).state=4\/(g x).state=0) (h2:∀ x∈s.out,(g x).state=4->x.state=4\/s.fates[x.id.toNat]?=some 3) (h3:∀ x∈s.out,(g x).state=2->x.state=2) :
 GS c L H A {s with out:=s.out.map g}:=by
 refine ⟨h.cfg,h.hi,h.len,fun k x hx=>?_,fun x hx hd=>?_,fun x hx h4=>?_,fun k x hx hst=>?_,h.done,h.ids,h.zfa,h.hand,h.handn,h.fresh,h.begun,h.mids,h.midn,h.whole,h.told⟩
 . have hx:(s.out.map g)[k]?=some x:=hx
   rw [zy16] at hx;cases hy:s.out[k]? with
   | none=>rw [hy] at hx;cases hx
   | some y =>
    rw [hy] at hx;cases hx;obtain ⟨w,w1,w2,w3⟩:=h.out k y hy;exact ⟨w,w1,(hg y).1.trans w2,(hg y).2.trans w3⟩
 . obtain ⟨y,hy,rfl⟩:=zy18.1 hx
   rw [(hg y).2] at hd;exact h1 y hy hd (h.stop y hy hd)
 . obtain ⟨y,hy,rfl⟩:=zy18.1 hx
   rw [(hg y).1];rcases h2 y hy h4 with h5 | h5
   . exact h.gone y hy h5
   . exact h5
 . have hx:(s.out.map g)[k]?=some x:=hx
   rw [zy16] at hx;cases hy:s.out[k]? with
   | none=>rw [hy] at hx;cases hx
   | some y =>
    rw [hy] at hx;cases hx;exact h.zgd k y hy (h3 y (zy4 hy) hst)
theorem yql {N:Nat} (h:GS c L H A s) (hs:SI N s) (hN:N<=500) {id:Nat} (hid:s.fates[id]?=some 1):∃ E,GS c L (H++E) A (zev s id):=by
 have hf:(s.fates.set id 3)[id]?=some 3:=by rw [zy20 (zdz hid)]
 have hcap:=h.few hs;have hlen:=h.num hs;have hcu:=hs.cum;rw [h.cfg] at hcu;have g1:=h.fate id;have g2:=g1.leave (id:=id) hf (w:=if s.sched.hand=(id:Int) then -1 else s.sched.hand) (by show _=s.sched.hand\/_;split;exact .inr rfl;exact .inl rfl);have key:∃ E,GS c L (H++E) A {{s with fates:=s.fates.set id 3,queue:=s.queue.filter (fun m=>decide (m.id≠(id:Int))),sched:={s.sched with hand:=if s.sched.hand=(id:Int) then -1 else s.sched.hand}} with out:=(s.queue.foldl (zef id) {s with fates:=s.fates.set id 3}).out,next:=(s.queue.foldl (zef id) {s with fates:=s.fates.set id 3}).next}:=by
  rcases yiu id s.queue {s with fates:=s.fates.set id 3} h.zfa with e | ⟨m,hm,m1,m2,e⟩
  . rw [e];exact ⟨[],by rw [zy7];exact g2⟩
  . have hb:=h.begun m hm (by
     rcases zy139 m.mid 0 with hlt | hge
     . have:=(h.fresh m hm hlt).1;omega
     . exact hge)
    obtain ⟨y0,y1,y2,y3,y4⟩:=hb.one;have ym:=h.hi.mid y0 y1;have hnl:=hs.nextle;have hn0:=hs.next;have hc0:=(zcj hs.cfg)
    rw [h.cfg] at hc0;have hW:W (s.next+1)=s.next+1:=zbn zz0 zz0;have g3:=g2.endp (N:=30500) (m:=m) hlen hcu zz0 hb zz0 (fun q hq=>by have:=zy36 (zy40.1 hq).2;omega) (by rw [m1];exact hf) zz0 zz0 zz0;rw [e];refine ⟨_,g3.congr rfl rfl ?_ rfl rfl rfl rfl rfl⟩;exact hW
 obtain ⟨E,g4⟩:=key;have g5:=g4.mapOut (g:=Sco.zhb id) (fun x=>by unfold Sco.zhb;split<;>exact ⟨rfl,rfl⟩) (fun x _ _ hx=>by unfold Sco.zhb;split;exact .inl rfl;exact hx) (fun x _ hx=>by
  unfold Sco.zhb at hx;split at hx
  . rename_i c;right;show (s.fates.set id 3)[x.id.toNat]?=_;rw [c.1];exact hf
  . exact .inl hx) (fun x _ hx=>by
  unfold Sco.zhb at hx;split at hx
  . cases hx
  . exact hx)
 obtain ⟨r,-,-,-⟩:=zhq s id;exact ⟨E,g5.congr r.config rfl rfl r.cum (zfe s id) rfl (by show (if s.sched.hand=(id:Int) then {s.sched with hand:=-1} else s.sched:zho).hand=if s.sched.hand=(id:Int) then -1 else s.sched.hand;split<;>rfl) r.mids⟩
end
end Gh
namespace Pck
open Chk
theorem zre:∀ {l:List Chunk} {f:Nat},(zbq l).length<=f->zcm l=0->zft f (zbq l)=(l.map clean,0)
 | [],f,_,_=>by cases f<;>rfl
 | c::r,f,h,hw=>by
  simp only [zcm] at hw;have hc:zdq c=0:=by
   rcases Int.decEq (zdq c) 0 with h | h
   . rw [zy1 h] at hw;exact hw
   . exact h
  rw [zy0 (fun h=>h hc)] at hw;have hb:zbq (c::r)=Chk.bytes c++zbq r:=rfl;have hlen:2<=(Chk.bytes c).length:=by rw [Chk.bytes,zy1 hc];simp
  rw [hb,zy8] at h;obtain ⟨g,rfl⟩:∃ g,f=g+1:=⟨f-1,by omega⟩
  rw [hb,zft,zy0 (by rw [zy8];omega),yhe hc,zy0 (fun h=>h rfl)];have hd:(Chk.bytes c++zbq r).drop (((Chk.bytes c).length:Int)).toNat=zbq r:=by simp
  rw [show (clean c,((Chk.bytes c).length:Int),(0:Int)).2.1=((Chk.bytes c).length:Int) from rfl,hd,zre (by omega) hw]
  rfl
theorem xge {l:List Chunk} {most:Int} (h:(zcv l most).2=0):l.length≠0/\zcm l=0/\((zbq l).length:Int)<=most/\zcv l most=(zbq l,0):=by
 unfold zcv at h ⊢;by_cases h1:l.length=0
 . rw [zy1 h1] at h;cases h
 rw [zy0 h1] at h ⊢;by_cases h2:zcm l≠0
 . rw [zy1 h2] at h;exact absurd h h2
 rw [zy0 h2] at h ⊢;by_cases h3:((zbq l).length:Int)>most
 . rw [zy1 h3] at h;cases h
 rw [zy0 h3];exact ⟨h1,by omega,by omega,rfl⟩
end Pck
namespace Gh
open Ser Snd
def gF (s:zab) (id:Nat):Prop:=s.fates[id]?=some 3
def zsj (H:List Prt) (ch:Chunk):Prop:=∃ (i:Nat) (y:Prt),H[i]?=some y/\ch=y.chunk/\ch.data≠[]
def ymc (c:Config) (H:List Prt) (A F:Nat->Prop) (ch:Chunk):Prop:=∃ n:Int,c.first-1<=n/\n<c.first+H.length/\tag ch.tag=tag n/\(∀ (i:Nat) y,H[i]?=some y->c.first+i<=n->A i\/F y.id) /\
 ∀ sk∈ch.zbs,∃ (i:Nat) (y:Prt),H[i]?=some y/\c.first+i<=n/\F y.id/\sk.stream=y.chunk.stream/\sk.ordered=y.chunk.ordered/\sk.mid=y.chunk.mid
def zmy (c:Config) (H:List Prt) (A F:Nat->Prop) (ch:Chunk):Prop:=zsj H ch\/(ch.kind=3/\ymc c H A F ch)
theorem zsj.more {H E:List Prt} {ch:Chunk} (h:zsj H ch):zsj (H++E) ch:=by
 obtain ⟨i,y,h1,h2⟩:=h;exact ⟨i,y,zio h1,h2⟩
theorem yfl {H E:List Prt} {i:Nat} {y:Prt} (h:(H++E)[i]?=some y) (hi:i<H.length):H[i]?=some y:=by
 rwa [zy22 hi] at h
theorem ymc.more {c:Config} {H E:List Prt} {A B F G:Nat->Prop} {ch:Chunk} (h:ymc c H A F ch) (hA:∀ i,A i->B i) (hF:∀ i,F i->G i):ymc c (H++E) B G ch:=by
 obtain ⟨n,h1,h2,h3,h4,h5⟩:=h;refine ⟨n,h1,by rw [zy8];push_cast;omega,h3,fun i y hy hle=>(h4 i y (yfl hy zz0) hle).imp (hA i) (hF _),fun sk hsk=>?_⟩;obtain ⟨i,y,k1,k2,k3,k4⟩:=h5 sk hsk;exact ⟨i,y,zio k1,k2,hF _ k3,k4⟩
theorem zmy.more {c:Config} {H E:List Prt} {A B F G:Nat->Prop} {ch:Chunk} (h:zmy c H A F ch) (hA:∀ i,A i->B i) (hF:∀ i,F i->G i):zmy c (H++E) B G ch :=
 h.imp zsj.more fun h=>⟨h.1,h.2.more hA hF⟩
section
variable {c:Config} {L:List Message} {H:List Prt} {A:Nat->Prop} {s:zab} {N:Nat}
theorem ybs (s:zab) {id k:Nat} (h:gF s k):gF (zev s id) k:=by
 unfold gF at h ⊢;rw [zfe];by_cases e:id=k
 . subst e;rw [zy20 (zdz h)]
 . rw [zy49 e];exact h
theorem zyd (hN:N<=500):∀ (q:List zag) {H:List Prt} {s:zab},GS c L H A s->SI N s->q.Pairwise (fun a b=>a.id<b.id)->(∀ m∈q,m∈s.queue)->∃ E,GS c L (H++E) A (q.foldl zju s)/\(∀ k,gF s k->gF (q.foldl zju s) k)
 | [],H,s,h,_,_,_=>⟨[],by rw [zy7];exact h,fun _ h=>h⟩
 | m::q,H,s,h,hs,hp,hm=>by
  obtain ⟨p1,p2⟩:=zy124.1 hp;have hq:=hs.queue m (hm m zz4);have h0:=hq.id0;rw [zy56];by_cases c1:old s.clock m.came m.message.life=true
  . rw [show zju s m=zev s m.id from zy1 c1]
    obtain ⟨k,hk⟩:∃ k:Nat,m.id=k:=⟨m.id.toNat,by omega⟩
    have hf:=hq.fate;have hid1:=hq.id1;rw [hk] at hf ⊢;rw [zy31] at hf;obtain ⟨E,g⟩:=yql h hs hN hf;obtain ⟨E2,g2,g3⟩:=zyd hN q g (zyl hs zz0) p2 fun x hx=>by
     rw [zjf];exact zy40.2 ⟨hm x zz29,zy19 (by have:=p1 x hx;omega)⟩
    exact ⟨E++E2,by rw [<- zy28];exact g2,fun j hj=>g3 j (ybs s hj)⟩
  . rw [show zju s m=s from zy0 c1]
    exact zyd hN q h hs p2 fun x hx=>hm x zz29
theorem zyf (hN:N<=500):∀ (q:List zbp) {H:List Prt} {s:zab},GS c L H A s->SI N s->(∀ m∈q,0<=m.id/\m.id<s.fates.length)->∃ E,GS c L (H++E) A (q.foldl zhk s)/\(∀ k,gF s k->gF (q.foldl zhk s) k)
 | [],H,s,h,_,_=>⟨[],by rw [zy7];exact h,fun _ h=>h⟩
 | x::q,H,s,h,hs,hx=>by
  obtain ⟨x0,x1⟩:=hx x zz4;rw [zy56];by_cases c1:yyg s x=true
  . rw [show zhk s x=zev s x.id from zy1 c1]
    obtain ⟨k,hk⟩:∃ k:Nat,x.id=k:=⟨x.id.toNat,by omega⟩
    have hf:s.fates[k]?=some 1:=by
     unfold yyg at c1;rw [zy12,zy34,hk,zy31] at c1;cases hz:s.fates[k]? with
     | none=>rw [hz] at c1;exact absurd c1.1 zz5
     | some z=>rw [hz] at c1;rw [show z=1 from c1.1]
    rw [hk];obtain ⟨E,g⟩:=yql h hs hN hf;obtain ⟨E2,g2,g3⟩:=zyf hN q g (zyl hs zz0) fun y hy=>by
     rw [zfe,zy26];exact hx y zz57
    exact ⟨E++E2,by rw [<- zy28];exact g2,fun j hj=>g3 j (ybs s hj)⟩
  . rw [show zhk s x=s from zy0 c1]
    exact zyf hN q h hs fun y hy=>hx y zz57
theorem yqb (h:GS c L H A s) (hs:SI N s) (hN:N<=500):∃ E,GS c L (H++E) A (expire s)/\∀ k,gF s k->gF (expire s) k:=by
 obtain ⟨E,g1,g2⟩:=zyd hN s.queue h hs h.zfa fun _ h=>h
 obtain ⟨a,b⟩:=zlx s.queue s hs fun m hm=>⟨(hs.queue m hm).id0,(hs.queue m hm).id1⟩
 obtain ⟨E2,g3,g4⟩:=zyf hN (s.queue.foldl zju s).out g1 a fun x hx=>⟨(a.out x hx).id0,(a.out x hx).id1⟩
 exact ⟨E++E2,by rw [<- zy28];exact g3,fun k hk=>g4 k (g2 k hk)⟩
theorem yll {ch:Chunk} {t:zfo}:∀ {l:List zfo},t∈Sco.skip ch l->t∈l\/t=⟨ch.stream,ch.mid,ch.ordered⟩
 | [],h=>by
  rw [Sco.skip,zy9] at h;exact .inr h
 | x::r,h=>by
  rw [Sco.skip] at h;split at h
  . rename_i c1
    unfold Sco.zkf at c1;simp only [zy12,zy37] at c1;rcases zy14.1 h with h | h
    . rw [h,c1.1.1,c1.1.2];exact .inr rfl
    . exact .inl (by simp [h])
  . rcases zy14.1 h with h | h
    . exact .inl (by simp [h])
    . exact (yll h).imp (fun h=>by simp [h]) id
theorem zzm (h:GS c L H A s) (hs:SI N s):∀ (l:List zbp) (k:Nat) (sk:List zfo) (cu:Int),s.out.drop k=l->cu=s.cum+k->k<=s.out.length->(∀ (i:Nat) y,H[i]?=some y->c.first+i<=cu->A i\/gF s y.id) ->
 (∀ t∈sk,∃ (i:Nat) (y:Prt),H[i]?=some y/\c.first+i<=cu/\gF s y.id/\t.stream=y.chunk.stream/\t.ordered=y.chunk.ordered/\t.mid=y.chunk.mid) ->
 s.cum<=(Sco.zdm cu sk l).1/\(Sco.zdm cu sk l).1<=s.cum+s.out.length/\(∀ (i:Nat) y,H[i]?=some y->c.first+i<=(Sco.zdm cu sk l).1->A i\/gF s y.id) /\
 (∀ t∈(Sco.zdm cu sk l).2,∃ (i:Nat) (y:Prt),H[i]?=some y/\c.first+i<=(Sco.zdm cu sk l).1/\gF s y.id/\t.stream=y.chunk.stream/\t.ordered=y.chunk.ordered/\t.mid=y.chunk.mid)
 | [],k,sk,cu,_,h2,h3,h4,h5=>⟨by show s.cum<=cu;omega,by show cu<=_;omega,h4,h5⟩
 | x::r,k,sk,cu,h1,h2,h3,h4,h5=>by
  have stay:s.cum<=cu/\cu<=s.cum+s.out.length/\(∀ (i:Nat) y,H[i]?=some y->c.first+i<=cu->A i\/gF s y.id)/\(∀ t∈sk,∃ (i:Nat) (y:Prt),H[i]?=some y/\c.first+i<=cu/\gF s y.id/\t.stream=y.chunk.stream/\t.ordered=y.chunk.ordered/\t.mid=y.chunk.mid):=⟨by omega,by omega,h4,h5⟩
  have hx:s.out[k]?=some x:=by
   have:(s.out.drop k)[0]?=some x:=by rw [h1];rfl
   rwa [zy48,zy83] at this
  have hk:=zdz hx;have hr:s.out.drop (k+1)=r:=by rw [<- zy114,h1];rfl
  have hnum:=hs.nums k x hx;obtain ⟨y,y1,y2,y3⟩:=h.out k x hx;have hcu:=hs.cum;rw [h.cfg] at hcu;have hix:c.first+((((s.cum+1-c.first).toNat+k:Nat)):Int)=x.number:=by rw [hnum];omega
  have hyid:x.id.toNat=y.id:=by omega
  rw [Sco.zdm];by_cases c1:x.number≠W (cu+1)\/(x.state≠4/\x.state≠2)
  . rw [zy1 c1];exact stay
  rw [zy0 c1];have hst:x.state=4\/x.state=2:=by omega
  have hcov:∀ (i:Nat) z,H[i]?=some z->c.first+i<=x.number->A i\/gF s z.id:=by
   intro i z hz hle;by_cases e:c.first+i<=cu
   . exact h4 i z hz e
   . have:i=(s.cum+1-c.first).toNat+k:=by omega
     subst this;rw [y1] at hz;cases hz;rcases hst with h6 | h6
     . right;have:=h.gone x (zy4 hx) h6;rwa [hyid] at this
     . exact .inl (h.zgd k x hx h6)
  by_cases c2:x.state=4
  . rw [zy1 c2]
    split
    . exact stay
    . refine zzm h hs r (k+1) _ x.number hr (by rw [hnum];push_cast;omega) zz0 hcov fun t ht=>?_
      rcases yll ht with ht | rfl
      . obtain ⟨i,z,z1,z2,z3⟩:=h5 t ht
        exact ⟨i,z,z1,by omega,z3⟩
      . refine ⟨_,y,y1,by omega,?_,?_,?_,?_⟩
        . have:=h.gone x (zy4 hx) c2;rwa [hyid] at this
        . show x.chunk.stream=_;rw [y3]
        . show x.chunk.ordered=_;rw [y3]
        . show x.chunk.mid=_;rw [y3]
  . rw [zy0 c2]
    refine zzm h hs r (k+1) _ x.number hr (by rw [hnum];push_cast;omega) zz0 hcov fun t ht=>?_
    obtain ⟨i,z,z1,z2,z3⟩:=h5 t ht;exact ⟨i,z,z1,by omega,z3⟩
def zpf (c:Config) (H:List Prt) (A:Nat->Prop) (p:zgn):Prop:=∀ l∈p.out,∀ ch∈l,zmy c H A (gF p.s) ch
theorem yss {o:List (List Chunk)} {k:Nat} {x:Chunk} {Q:Chunk->Prop} (h:∀ l∈o,∀ ch∈l,Q ch) (hx:Q x):∀ l∈setAt o k (·++[x]),∀ ch∈l,Q ch:=by
 intro l hl ch hc;unfold setAt at hl;split at hl
 . exact h l hl ch hc
 . rename_i y hy
   rcases zy44 hl with hl | rfl
   . exact h l hl ch hc
   . rcases zy11.1 hc with hc | hc
     . exact h y (zy4 hy) ch hc
     . rw [zy9] at hc;subst hc;exact hx
theorem ymr {p:zgn} (h:GS c L H A p.s) (hs:SI N p.s) (ho:zpf c H A p):GS c L H A (forward p).s/\zpf c H A (forward p)/\(forward p).s.fates=p.s.fates:=by
 unfold forward;split
 . exact ⟨h,ho,rfl⟩
 . have hcu:=hs.cum
   rw [h.cfg] at hcu;have hnum:=h.num hs;have hcap:=h.few hs;obtain ⟨k1,k2,k3,k4⟩:=zzm h hs p.s.out 0 [] p.s.cum rfl zz4 zz4 (fun i y hy hle=>h.done i y hy hle) zz4;refine ⟨h.congr rfl rfl rfl rfl rfl rfl rfl rfl,yss ho (.inr ⟨rfl,(Sco.zez p.s.out p.s.cum).1,?_,?_,?_,k3,k4⟩),rfl⟩
   . show _<=(Sco.zdm p.s.cum [] p.s.out).1;omega
   . show (Sco.zdm p.s.cum [] p.s.out).1<_;omega
   . show tag (tag _)=_;unfold tag;omega
theorem yyk {p:zgn} (h:GS c L H A p.s) (ho:zpf c H A p) {i path:Nat} {x:zbp} (hx:p.s.out[i]?=some x) (hd:x.chunk.data≠[]):GS c L H A (fly p i path).s/\zpf c H A (fly p i path)/\(fly p i path).s.fates=p.s.fates:=by
 obtain ⟨y,y1,y2,y3⟩:=h.out i x hx;have hil:=zdz hx;unfold fly;simp only [hx];refine ⟨?_,yss ho (.inl ⟨_,y,y1,y3,hd⟩),trivial⟩;refine ⟨h.cfg,h.hi,h.len,fun k z hz=>?_,fun z hz hzd=>?_,fun z hz h4=>?_,fun k z hz h2=>?_,h.done,h.ids,h.zfa,h.hand,h.handn,h.fresh,h.begun,h.mids,h.midn,h.whole,h.told⟩
 . have hz:(p.s.out.set i (yal x path))[k]?=some z:=hz
   by_cases e:i=k
   . subst e
     rw [zy20 hil] at hz;cases hz;exact ⟨y,y1,y2,y3⟩
   . rw [zy49 e] at hz;exact h.out k z hz
 . rcases zy44 hz with hz | rfl
   . exact h.stop z hz hzd
   . exact absurd hzd hd
 . rcases zy44 hz with hz | rfl
   . exact h.gone z hz h4
   . cases h4
 . have hz:(p.s.out.set i (yal x path))[k]?=some z:=hz
   by_cases e:i=k
   . subst e
     rw [zy20 hil] at hz;cases hz;cases h2
   . rw [zy49 e] at hz;exact h.zgd k z hz h2
theorem yph {p:zgn} (h:GS c L H A p.s) (ho:zpf c H A p) (path i:Nat):GS c L H A (zdf path p i).s/\zpf c H A (zdf path p i)/\(zdf path p i).s.fates=p.s.fates:=by
 unfold zdf;split
 . exact ⟨h,ho,rfl⟩
 . rename_i x hx
   split
   . rename_i c1
     refine yyk h ho hx fun hd=>?_
     have:=h.stop x (zy4 hx) hd;omega
   . exact ⟨h,ho,rfl⟩
theorem yas {path:Nat}:∀ (l:List Nat) {p:zgn},GS c L H A p.s->zpf c H A p->GS c L H A (l.foldl (zdf path) p).s/\zpf c H A (l.foldl (zdf path) p)/\(l.foldl (zdf path) p).s.fates=p.s.fates
 | [],_,h,ho=>⟨h,ho,rfl⟩
 | i::l,p,h,ho=>by
  obtain ⟨h1,h2,h3⟩:=yph h ho path i;obtain ⟨k1,k2,k3⟩:=yas (path:=path) l h1 h2;exact ⟨k1,k2,k3.trans h3⟩
theorem mem_set' {α:Type} {l:List α} {k:Nat} {a y:α} (h:y∈l.set k a):y=a\/∃ i,i≠k/\l[i]?=some y:=by
 obtain ⟨i,hi⟩:=zy46 h;by_cases e:k=i
 . subst e
   rw [zy20 (by have:=zdz hi;rwa [zy26] at this)] at hi;cases hi;exact .inl rfl
 . rw [zy49 e] at hi;exact .inr ⟨i,fun h=>e h.symm,hi⟩
theorem mem_erase' {α:Type} {l:List α} {k:Nat} {y:α} (h:y∈l.eraseIdx k):∃ i,i≠k/\l[i]?=some y:=by
 obtain ⟨i,hi⟩:=zy46 h;rw [List.getElem?_eraseIdx] at hi;split at hi
 . exact ⟨i,by omega,hi⟩
 . exact ⟨i+1,by omega,hi⟩
theorem yhg {q:List zag} (h:q.Pairwise fun a b=>a.id<b.id) {i j:Nat} {x y:zag} (hx:q[i]?=some x) (hy:q[j]?=some y) (hij:i<j):x.id<y.id:=by
 obtain ⟨h1,e1⟩:=zy10.1 hx;obtain ⟨h2,e2⟩:=zy10.1 hy;rw [<- e1,<- e2];exact List.pairwise_iff_getElem.1 h i j h1 h2 hij
end
end Gh
namespace Gh
open Ser Snd
section
variable {c:Config} {L:List Message} {H:List Prt} {A:Nat->Prop} {s:zab} {N:Nat}
theorem yhf {P:Int} {s:zab} {m:zag} (hP:1<=P) (hc:s.config.part=P) (h0:0<=m.parts) (hs:m.sent=m.parts*P) (hl:m.sent<m.message.data.length):znr P m.message (cut s m (many s m))/\(cut s m (many s m)).data≠[]:=by
 have hm0:0<=m.parts*P:=zy129 h0 zz0;have hdl:(m.message.data.drop m.sent.toNat).length=m.message.data.length-m.sent.toNat:=zy60 ..;refine ⟨⟨h0,by show m.parts*P<_;omega,?_,?_⟩,?_⟩
 . show (m.message.data.drop m.sent.toNat).take (many s m).toNat=(m.message.data.drop (m.parts*P).toNat).take P.toNat
   rw [<- hs];unfold many;split
   . rw [zy32 (by omega),zy32 (by omega)]
   . rw [hc]
 . show decide (m.sent+many s m=m.message.data.length)=decide ((m.message.data.length:Int)<=m.parts*P+P)
   rw [zy157,<- hs];unfold many;split<;>omega
 . intro h
   have h:(m.message.data.drop m.sent.toNat).take (many s m).toNat=[]:=h;have:=congrArg List.length h;rw [zy69,hdl,zy13] at this;unfold many at this;split at this<;>omega
theorem ycy (s:zab) (m:zag) (hb:∀ n∈s.mids,0<=n/\n<=2 ^ 30) (i:Nat):s.mids[i]?.getD 0<=(zet s m)[i]?.getD 0:=by
 unfold zet;split
 . unfold setAt
   split
   . exact zy91 _
   . rename_i n hn
     by_cases e:zgw s m=i
     . subst e
       rw [zy20 (zdz hn),hn];have:=hb n (zy4 hn);show n<=W (n+1);rw [zbn (by omega) (by omega)];omega
     . rw [zy49 e];exact zy91 _
 . exact zy91 _
theorem ynh {s:zab} {m:zag} {n:Int} (h:n∈zet s m) (hb:∀ n∈s.mids,0<=n/\n<=2 ^ 30):n∈s.mids\/n-1∈s.mids:=by
 unfold zet at h;split at h
 . unfold setAt at h
   split at h
   . exact .inl h
   . rename_i x hx
     rcases zy44 h with h | rfl
     . exact .inl h
     . right
       have:=hb x (zy4 hx);show W (x+1)-1∈s.mids;rw [zbn (by omega) (by omega),show x+1-1=x by omega];exact zy4 hx
 . exact .inl h
theorem xdg (h:GS c L H A s) (hs:SI N s) (hN:N<=500) (hkeep:KI L s) {k:Nat} {m:zag} (hm:s.queue[k]?=some m) (hfirst:m.id=s.sched.hand\/∀ q∈s.queue.take k,q.message.stream≠m.message.stream) :
 GS c L (H++[⟨m.id.toNat,cut s m (many s m)⟩]) A (yuq s k m)/\(cut s m (many s m)).data≠[]:=by
 have hmm:=zy4 hm;have hq:=hs.queue m hmm;have hw:=zcj hs.cfg;have hL:=hkeep.queue m hmm;have hlen:=h.num hs;have hcap:=h.few hs;have hcu:=hs.cum;rw [h.cfg] at hcu;have hnx:=hs.next;have hln:=h.len;have q0:=hq.id0;have q1:=hq.id1;have q2:=hq.parts;have q3:=hq.sent;have q4:=hq.left;have q5:=hq.st0;have q6:=hq.st1;have q7:=hq.fate;have q8:=hq.few zz0;have hP:s.config.part=c.part:=by rw [h.cfg]
 have hcf:s.config.first=c.first:=by rw [h.cfg]
 have hmids:∀ n∈s.mids,0<=n/\n<=2 ^ 30:=fun n hn=>by have:=h.midn n hn;omega
 obtain ⟨hpo,hdne⟩:=yhf (P:=c.part) (s:=s) (m:=m) zz0 hP q2 (by rw [<- hP];exact q3) q4;have hms0:0<=m.parts*s.config.part:=zy129 q2 zz0;obtain ⟨n1,n2,n3⟩:=zpt (s:=s) (m:=m) zz0 zz0 zz0 q4 (by have:=hq.len2;omega);have hWn:W (s.next+1)=s.next+1:=zbn zz0 zz0;have hWp:W (m.parts+1)=m.parts+1:=zbn zz0 zz0;have hof:∀ x∈H,(x.id:Int)=m.id->Of m x.chunk:=by
  intro x hx he;obtain ⟨w,w1,w2,w3,-⟩:=h.hi.msg x hx;rw [show x.id=m.id.toNat by omega,hL] at w1;cases w1;exact ⟨w2,w3⟩
 have hmc:∀ x:Prt,Of m x.chunk->yur s x.chunk=yur s (cut s m (many s m)):=by
  intro x hx;unfold yur;rw [hx.1,hx.2];rfl
 have hma:zgw s m<s.mids.length:=by
  have:=hs.nmids;unfold zgw;split<;>omega
 -- what is so of the message's number in its row
 have hall:(∀ x∈H,Of m x.chunk->(x.id:Int)<=m.id/\((x.id:Int)<m.id↔x.chunk.mid<zci s m)/\x.chunk.mid<=zci s m)/\(∀ x∈H,(x.id:Int)=m.id->x.chunk.part<m.parts)/\(0<=zci s m/\zci s m<=H.length) /\
  (∀ j:Nat,(j:Int)<m.parts->∃ y∈H,(y.id:Int)=m.id/\y.chunk.part=j/\y.chunk.data≠[])/\zci s m<yur (yuq s k m) (cut s m (many s m)) /\
  (∀ (i:Nat) q,i≠k->s.queue[i]?=some q->Of q (cut s m (many s m))->(q.mid<0->m.id<q.id)/\(0<=q.mid->m.id<=q.id)):=by
  rcases zy139 m.mid 0 with hneg | hge
  . obtain ⟨f1,f2⟩:=h.fresh m hmm hneg
    have hmu:zci s m=yur s (cut s m (many s m)):=by unfold zci;rw [zy1 hneg];rfl
    have hget:s.mids[zgw s m]?=some (zci s m):=by
     obtain ⟨z,hz⟩:∃ z,s.mids[zgw s m]?=some z:=⟨_,zy2 hma⟩
     rw [hz];unfold zci;rw [zy1 hneg,hz];rfl
    have hmb:=h.midn _ (zy4 hget);refine ⟨fun x hx hox=>?_,fun x hx he=>?_,hmb,fun j hj=>?_,?_,fun i q hik hqi hoq=>?_⟩
    . have e1:=f2 x hx hox
      have e2:=h.mids x hx;rw [hmc x hox,<- hmu] at e2;omega
    . have e1:=f2 x hx (hof x hx he);omega
    . omega
    . show zci s m<(zet s m)[zgw s m]?.getD 0
      unfold zet;rw [zy1 hneg];unfold setAt;simp only [hget];rw [zy20 hma];show _<W (zci s m+1);rw [zbn (by omega) (by omega)];omega
    . have hno:∀ q∈s.queue.take k,q.message.stream≠m.message.stream:=by
       rcases hfirst with hf | hf
       . have:=h.hand m hmm hf;omega
       . exact hf
      have hlt:m.id<q.id:=by
       rcases zy62 i k with hlt | hge
       . exact absurd hoq.1.symm (hno q (zy4 (i:=i) (by rw [zy52,zy1 hlt];exact hqi)))
       . exact yhg h.zfa hm hqi zz0
      exact ⟨fun _=>hlt,fun _=>by omega⟩
  . have b:=h.begun m hmm hge
    obtain ⟨y0,y1,y2,y3,y4⟩:=b.one;have hmu:zci s m=m.mid:=by unfold zci;rw [zy0 (by omega)]
    have hmb:=h.hi.mid y0 y1;refine ⟨fun x hx hox=>?_,b.part,by rw [hmu];omega,b.all,?_,fun i q hik hqi hoq=>?_⟩
    . have e1:=b.top x hx hox
      have e2:Cls x.chunk y0.chunk:=⟨hox.1.trans y4.1.symm,hox.2.trans y4.2.symm⟩
      have e3:=h.hi.key x hx y0 y1 e2;have e4:=h.hi.key y0 y1 x hx e2.symm;rw [hmu,<- y3,<- y2];omega
    . have e1:=h.mids y0 y1
      rw [hmc y0 y4] at e1;have e2:=ycy s m hmids (zgw s m);rw [hmu,<- y3];exact Int.lt_of_lt_of_le e1 e2
    . have hoy:Of q y0.chunk:=⟨y4.1.trans hoq.1,y4.2.trans hoq.2⟩
      refine ⟨fun hqn=>?_,fun hqn=>?_⟩
      . have:=(h.fresh q (zy4 hqi) hqn).2 y0 y1 hoy;omega
      . have:=(h.begun q (zy4 hqi) hqn).top y0 y1 hoy;omega
 obtain ⟨ha,hb,hc3,hd,he5,hf⟩:=hall;have htag:tag (zci s m)=zci s m:=by unfold tag;omega
 have yqw:HI c L (H++[⟨m.id.toNat,cut s m (many s m)⟩]):=by
  refine h.hi.push ⟨rfl,?_,rfl,rfl,rfl⟩ ⟨m.message,hL,rfl,rfl,fun _=>hpo⟩ ?_ (fun x hx hxc=>?_) (fun x hx he=>?_)
  . show tag s.next=_;rw [<- hln]
  . show 0<=tag (zci s m)/\tag (zci s m)<=_;rw [htag];exact hc3
  . have:=ha x hx ⟨hxc.1,hxc.2⟩
    show x.id<=m.id.toNat/\(x.id<m.id.toNat↔x.chunk.mid<tag (zci s m))/\x.chunk.mid<=tag (zci s m);rw [htag];omega
  . have he:x.id=m.id.toNat:=he
    exact hb x hx zz0
 have hmem:∀ x∈H,x∈H++[(⟨m.id.toNat,cut s m (many s m)⟩:Prt)]:=fun x hx=>zy61 _ hx
 have hlast:(⟨m.id.toNat,cut s m (many s m)⟩:Prt)∈H++[(⟨m.id.toNat,cut s m (many s m)⟩:Prt)]:=by simp
 generalize hM:({m with mid:=zci s m,sent:=m.sent+many s m,parts:=W (m.parts+1)}:zag)=M;have M1:M.id=m.id:=by rw [<- hM]
 have M2:M.message=m.message:=by rw [<- hM]
 have M3:M.mid=zci s m:=by rw [<- hM]
 have M4:M.parts=m.parts+1:=by rw [<- hM];exact hWp
 have hqueue:(yuq s k m).queue=if decide (m.sent+many s m=m.message.data.length) then s.queue.eraseIdx k else s.queue.set k M:=by rw [<- hM];rfl
 have hq':∀ q∈(yuq s k m).queue,(q=M/\m.sent+many s m≠m.message.data.length)\/∃ i,i≠k/\s.queue[i]?=some q:=by
  intro q hq;rw [hqueue] at hq;split at hq
  . exact .inr (mem_erase' hq)
  . rename_i c1
    rcases mem_set' hq with h1 | h1
    . exact .inl ⟨h1,by simpa using c1⟩
    . exact .inr h1
 have hne:∀ (i:Nat) q,i≠k->s.queue[i]?=some q->q.id≠m.id:=by
  intro i q hik hqi;rcases zy62 i k with hlt | hge
  . have:=yhg h.zfa hqi hm hlt;omega
  . have:=yhg h.zfa hm hqi zz0;omega
 have hofq:∀ q:zag,Of q (cut s m (many s m))->∀ x:Prt,Of q x.chunk↔Of m x.chunk:=fun q hq x=>by
  have e1:m.message.stream=q.message.stream:=hq.1;have e2:m.message.ordered=q.message.ordered:=hq.2;unfold Of;rw [e1,e2]
 refine ⟨⟨h.cfg,yqw,?_,fun j x hx=>?_,fun x hx hxd=>?_,fun x hx h4=>?_,fun j x hx h2=>?_,fun i y hy hle=>?_,fun q hq=>?_,?_,fun q hq hh=>?_,?_,fun q hq hmn=>?_,fun q hq hmn=>?_,fun y hy=>?_,fun n hn=>?_,fun id hid h3=>?_,fun id h2 i y hy he=>?_⟩,hdne⟩
 . show c.first+((H++[_]).length:Int)=W (s.next+1)
   rw [hWn,zy8,zy50];push_cast;omega
 . have hx:(s.out++[_])[j]?=some x:=hx
   rcases zes hx with hx | ⟨rfl,rfl⟩
   . obtain ⟨y,e1,e2⟩:=h.out j x hx
     exact ⟨y,zio e1,e2⟩
   . exact ⟨⟨m.id.toNat,cut s m (many s m)⟩,by show (H++[_])[(s.cum+1-c.first).toNat+s.out.length]?=_;rw [hlen];exact ypk _ _,by show m.id=(m.id.toNat:Int);omega,rfl⟩
 . have hx:x∈s.out++[_]:=hx
   rcases zy11.1 hx with hx | hx
   . exact h.stop x hx hxd
   . rw [zy9] at hx;subst hx;exact absurd hxd hdne
 . have hx:x∈s.out++[_]:=hx
   rcases zy11.1 hx with hx | hx
   . exact h.gone x hx h4
   . rw [zy9] at hx;subst hx;cases h4
 . have hx:(s.out++[_])[j]?=some x:=hx
   rcases zes hx with hx | ⟨rfl,rfl⟩
   . exact h.zgd j x hx h2
   . cases h2
 . rcases zes hy with hy | ⟨rfl,rfl⟩
   . exact h.done i y hy hle
   . have hle:c.first+(H.length:Int)<=s.cum:=hle
     omega
 . rcases hq' q hq with ⟨rfl,-⟩ | ⟨i,-,hi⟩
   . omega
   . exact h.ids q (zy4 hi)
 . rw [hqueue]
   split
   . exact h.zfa.sublist (List.eraseIdx_sublist _ _)
   . have e:(s.queue.set k M).map zag.id=s.queue.map zag.id:=by
      apply zy85;intro i;rw [zy16,zy16];by_cases e:k=i
      . subst e;rw [zy20 (zdz hm),hm];show some M.id=some m.id;rw [M1]
      . rw [zy49 e]
     have h1:(s.queue.map zag.id).Pairwise (·<·):=List.pairwise_map.2 h.zfa;rw [<- e] at h1;exact List.pairwise_map.1 h1
 . have hh:q.id=if decide (m.sent+many s m=m.message.data.length) then -1 else m.id:=hh
   rcases hq' q hq with ⟨rfl,-⟩ | ⟨i,hik,hi⟩
   . rw [M3];exact hc3.1
   . have e1:=h.ids q (zy4 hi)
     have e2:=hne i q hik hi;split at hh
     . omega
     . exact absurd hh e2
 . show (if decide (m.sent+many s m=m.message.data.length) then -1 else m.id)<(L.length:Int)
   have:=hkeep.len;split<;>omega
 . rcases hq' q hq with ⟨rfl,-⟩ | ⟨i,hik,hi⟩
   . rw [M3] at hmn;omega
   . obtain ⟨f1,f2⟩:=h.fresh q (zy4 hi) hmn
     refine ⟨f1,fun y hy hoy=>?_⟩;rcases zy11.1 hy with hy | hy
     . exact f2 y hy hoy
     . rw [zy9] at hy;subst hy
       have:=(hf i q hik hi hoy).1 hmn;show (m.id.toNat:Int)<q.id;omega
 . rcases hq' q hq with ⟨rfl,-⟩ | ⟨i,hik,hi⟩
   . refine ⟨by omega,⟨_,hlast,by rw [M1];show (m.id.toNat:Int)=m.id;omega,by rw [M3];exact htag,by unfold Of;rw [M2];exact ⟨rfl,rfl⟩⟩,fun y hy hoy=>?_,fun y hy he=>?_,fun j hj=>?_⟩
     . unfold Of at hoy
       rw [M2] at hoy;rw [M1];rcases zy11.1 hy with hy | hy
       . exact (ha y hy hoy).1
       . rw [zy9] at hy;subst hy;show (m.id.toNat:Int)<=m.id;omega
     . rw [M1] at he
       rw [M4];rcases zy11.1 hy with hy | hy
       . have:=hb y hy he;omega
       . rw [zy9] at hy;subst hy;show m.parts<m.parts+1;omega
     . rw [M4] at hj
       rw [M1];rcases zy139 (j:Int) m.parts with hlt | hge
       . obtain ⟨y,e1,e2⟩:=hd j hlt
         exact ⟨y,hmem y e1,e2⟩
       . exact ⟨_,hlast,by show (m.id.toNat:Int)=m.id;omega,by show m.parts=j;omega,hdne⟩
   . have b:=h.begun q (zy4 hi) hmn
     obtain ⟨z0,z1,z2⟩:=b.one;refine ⟨b.some,⟨z0,hmem z0 z1,z2⟩,fun y hy hoy=>?_,fun y hy he=>?_,fun j hj=>?_⟩
     . rcases zy11.1 hy with hy | hy
       . exact b.top y hy hoy
       . rw [zy9] at hy;subst hy
         have:=(hf i q hik hi hoy).2 hmn;show (m.id.toNat:Int)<=q.id;omega
     . rcases zy11.1 hy with hy | hy
       . exact b.part y hy he
       . rw [zy9] at hy;subst hy
         have he:(m.id.toNat:Int)=q.id:=he;exact absurd zz0 (hne i q hik hi)
     . obtain ⟨y,e1,e2⟩:=b.all j hj
       exact ⟨y,hmem y e1,e2⟩
 . rcases zy11.1 hy with hy | hy
   . exact Int.lt_of_lt_of_le (h.mids y hy) (ycy s m hmids _)
   . rw [zy9] at hy;subst hy
     show tag (zci s m)<_;rw [htag];exact he5
 . have hn:n∈zet s m:=hn
   rw [zy8,zy50];rcases ynh hn hmids with hn | hn
   . have:=h.midn n hn;push_cast;omega
   . have:=h.midn _ hn;push_cast;omega
 . rcases h.whole id hid h3 with ⟨q,e1,e2⟩ | e1
   . obtain ⟨i,hi⟩:=zy46 e1
     by_cases hik:i=k
     . subst hik
       rw [hm] at hi;cases hi;by_cases hov:m.sent+many s m=m.message.data.length
       . right
         intro w hw2 j hj;rw [show id=m.id.toNat by omega,hL] at hw2;cases hw2;rcases zy139 (j:Int) m.parts with hlt | hge
         . obtain ⟨y,y1,y2,y3⟩:=hd j hlt
           exact ⟨y,hmem y y1,by omega,y3⟩
         . have hjp:(j:Int)=m.parts:=by
            apply Classical.byContradiction;intro hc;have e5:(m.parts+1)*c.part<=j*c.part:=zy101 zz0 zz0;have e6:(m.parts+1)*c.part=m.parts*c.part+c.part:=by rw [Int.add_mul,Int.one_mul]
            have e7:many s m<=c.part:=by unfold many;rw [<- hP];split<;>omega
            have e8:m.sent=m.parts*c.part:=by rw [<- hP];exact q3
            omega
           exact ⟨_,hlast,by show m.id.toNat=id;omega,by show m.parts=j;omega,hdne⟩
       . left
         refine ⟨M,?_,by omega⟩;rw [hqueue,zy0 (by simpa using hov)];exact zy4 (zy20 (zdz hm))
     . left
       refine ⟨q,?_,e2⟩;rw [hqueue];split
       . refine List.mem_eraseIdx_iff_getElem?.2 ⟨i,hik,hi⟩
       . exact zy4 (i:=i) (by rw [zy49 (fun h=>hik h.symm)];exact hi)
   . exact .inr e1.more
 . have h2:s.fates[id]?=some 2:=h2
   rcases zes hy with hy | ⟨rfl,rfl⟩
   . exact h.told id h2 i y hy he
   . have he:m.id.toNat=id:=he
     rw [<- he,q7] at h2;cases h2
theorem xbc {p q:zgn} (h:GS c L H A p.s) (hs:SI N p.s) (hN:N<=500) (hk:KI L p.s) (ho:zpf c H A p) (hq:next p=some q):∃ E,GS c L (H++E) A q.s/\zpf c (H++E) A q/\q.s.fates=p.s.fates:=by
 obtain ⟨s,o⟩:=p;unfold next at hq;dsimp only at hq h hs hk;split at hq
 . cases hq
 rename_i c1;obtain ⟨k,hkl,hk1,hk2⟩:=ynj (turns:=s.config.turns) (s:=s.sched) (q:=s.queue) (by show 0<=zeq s;omega);have hkn:(zeq s).toNat=k:=by show (Sch.next _ _ _).toNat=k;rw [hk1];omega
 rw [hkn,zy2 hkl] at hq;dsimp only at hq;split at hq
 . cases hq
 . cases hq
   rw [zoj];obtain ⟨g1,g2⟩:=xdg h hs hN hk (zy2 hkl) hk2;obtain ⟨g3,g4,g5⟩:=yyk (p:=⟨yuq s k s.queue[k],o⟩) (i:=s.out.length) (path:=Snd.choose s) (x:=⟨s.next,(s.queue[k]).id,0,0,0,0,(s.queue[k]).came,(s.queue[k]).message.life,(s.queue[k]).message.tries,cut s s.queue[k] (many s s.queue[k])⟩) g1 (fun l hl ch hc=>(ho l hl ch hc).more (fun _ h=>h) (fun _ h=>h)) (by show (s.out++[_])[s.out.length]?=_;simp) g2;exact ⟨_,g3,g4,g5⟩
theorem ykr:∀ (n:Nat) {H:List Prt} {p:zgn},GS c L H A p.s->SI N p.s->N<=500->KI L p.s->zpf c H A p->∃ E,GS c L (H++E) A (zgx n p).s/\zpf c (H++E) A (zgx n p)/\(zgx n p).s.fates=p.s.fates
 | 0,H,p,h,_,_,_,ho=>⟨[],by rw [zy7];exact ⟨h,ho,rfl⟩⟩
 | n+1,H,p,h,hs,hN,hk,ho=>by
  rw [zgx];cases hq:next p with
  | none=>exact ⟨[],by rw [zy7];exact ⟨h,ho,rfl⟩⟩
  | some q =>
   obtain ⟨E,g1,g2,g3⟩:=xbc h hs hN hk ho hq;obtain ⟨E2,k1,k2,k3⟩:=ykr n g1 (yrw hs hq) hN (yrv hk hq) g2;exact ⟨E++E2,by rw [<- zy28];exact ⟨k1,k2,k3.trans g3⟩⟩
theorem yfq {F:Nat->Prop} (hi:HI c L H) {ch:Chunk} (h:zmy c H A F ch):zmy c H A F (Chk.clean ch):=by
 rcases h with ⟨i,y,h1,h2,h3⟩ | ⟨h1,n,h2,h3,h4,h5,h6⟩
 . obtain ⟨t1,-,t3,t4,t5⟩:=hi.tag i y h1
   refine .inl ⟨i,y,h1,?_,?_⟩
   . rw [h2]
     unfold Chk.clean;rw [zy1 t1];generalize y.chunk=z at t1 t3 t4 t5;obtain ⟨a,b,d,e,f,g,k,l,m,n,o⟩:=z;dsimp only at t3 t4 t5 ⊢;subst t3 t4 t5;rfl
   . unfold Chk.clean
     rw [h2,zy1 t1];rw [h2] at h3;exact h3
 . refine .inr ⟨by rw [Chk.ymj];exact h1,n,h2,h3,by rw [Chk.ypo];exact h4,h5,?_⟩
   have:(Chk.clean ch).zbs=ch.zbs:=by unfold Chk.clean;rw [zy0 (by omega),zy0 (by omega)]
   rw [this];exact h6
theorem yds {l:List Chunk} {most:Int} (h:(Pck.zcv l most).2=0):∀ ch∈(Pck.zfu (Pck.zcv l most).1).1,∃ d∈l,ch=Chk.clean d:=by
 obtain ⟨h1,h2,h3,h4⟩:=Pck.xge h;rw [h4];intro ch hc;unfold Pck.zfu at hc;split at hc
 . cases hc
 . rw [Pck.zre (zy25 _) h2] at hc
   obtain ⟨d,hd,rfl⟩:=zy18.1 hc;exact ⟨d,hd,rfl⟩
theorem yxa {most path:Int} {l:List Chunk} {p:zay} (h:p∈zmo most path l):p.back=false/\p.path=path/\∀ ch∈(Pck.zfu p.bytes).1,∃ d∈l,ch=Chk.clean d:=by
 unfold zmo at h;split at h
 . rename_i c1
   rw [zy9] at h;subst h;refine ⟨rfl,rfl,fun ch hc=>?_⟩;obtain ⟨d,hd,e⟩:=yds c1 ch hc;exact ⟨d,zy59 hd,e⟩
 . cases h
theorem ykx {most path:Int}:∀ {n:Nat} {l:List Chunk} {p:zay},p∈zgj most path n l->p.back=false/\p.path=path/\∀ ch∈(Pck.zfu p.bytes).1,∃ d∈l,ch=Chk.clean d
 | 0,l,p,h=>by cases h
 | n+1,l,p,h=>by
  unfold zgj at h;split at h
  . cases h
  . rcases zy11.1 h with h | h
    . exact yxa h
    . obtain ⟨h1,h2,h3⟩:=ykx h
      refine ⟨h1,h2,fun ch hc=>?_⟩;obtain ⟨d,hd,e⟩:=h3 ch hc;exact ⟨d,zy77 hd,e⟩
theorem ztw {most:Int}:∀ {ls:List (List Chunk)} {k:Nat} {p:zay},p∈zcb most k ls->p.back=false/\∀ ch∈(Pck.zfu p.bytes).1,∃ l∈ls,∃ d∈l,ch=Chk.clean d
 | [],k,p,h=>by cases h
 | l::ls,k,p,h=>by
  unfold zcb at h;rcases zy11.1 h with h | h
  . obtain ⟨h1,-,h2⟩:=ykx h
    exact ⟨h1,fun ch hc=>⟨l,by simp,h2 ch hc⟩⟩
  . obtain ⟨h1,h2⟩:=ztw h
    refine ⟨h1,fun ch hc=>?_⟩;obtain ⟨l',k1,k2⟩:=h2 ch hc;exact ⟨l',by simp [k1],k2⟩
theorem xbp (h:GS c L H A s) (hs:SI N s) (hN:N<=500) (hk:KI L s):∃ E,GS c L (H++E) A (zlk s).1/\(∀ k,gF s k->gF (zlk s).1 k)/\∀ p∈(zlk s).2,p.back=false/\∀ ch∈(Pck.zfu p.bytes).1,zmy c (H++E) A (gF (zlk s).1) ch:=by
 obtain ⟨E,g1,g2⟩:=yqb h hs hN;have s1:=(ybl hs).1;have k1:=ybk hk hs;have o1:zpf c (H++E) A ⟨expire s,List.replicate s.paths.length []⟩:=by
  intro l hl ch hc;have:=zy57 hl;subst this;cases hc
 obtain ⟨g3,o2,f1⟩:=ymr (p:=⟨expire s,List.replicate s.paths.length []⟩) g1 s1 o1;have s2:=zwc (o:=List.replicate s.paths.length []) s1;have k2:=zwb (o:=List.replicate s.paths.length []) k1;obtain ⟨g4,o3,f2⟩:=yas (path:=Snd.choose (forward ⟨expire s,List.replicate s.paths.length []⟩).s) (List.range (forward ⟨expire s,List.replicate s.paths.length []⟩).s.out.length) g3 o2;have s3:=yif s2;have k3:=zsm (path:=Snd.choose (forward ⟨expire s,List.replicate s.paths.length []⟩).s) (List.range (forward ⟨expire s,List.replicate s.paths.length []⟩).s.out.length) k2;obtain ⟨E2,g5,o4,f3⟩:=ykr 61 g4 s3 hN k3 o3;have hfa:(zlk s).1.fates=(expire s).fates:=f3.trans (f2.trans f1);refine ⟨E++E2,?_,fun k hk=>?_,fun p hp=>?_⟩
 . rw [<- zy28]
   exact g5.congr rfl rfl rfl rfl rfl rfl rfl rfl
 . have:=g2 k hk
   unfold gF at this ⊢;rw [hfa];exact this
 . obtain ⟨b1,b2⟩:=ztw hp
   refine ⟨b1,fun ch hc=>?_⟩;obtain ⟨l,l1,d,d1,rfl⟩:=b2 ch hc;rw [<- zy28];exact yfq g5.hi (o4 l l1 d d1)
end
end Gh
namespace Gh
open Ser Snd
def zix (c:Config) (H:List Prt) (A F:Nat->Prop) (ch:Chunk):Prop:=∃ n:Int,c.first-1<=n/\n<c.first+H.length/\tag ch.tag=tag n/\(∀ (i:Nat) y,H[i]?=some y->c.first+i<=n->A i\/F y.id) /\
 (∀ t∈ch.zax,n+t.hi<c.first+H.length)/\∀ i:Nat,n<c.first+i->has ch.zax (c.first+i-n)=true->A i
section
variable {c:Config} {L:List Message} {H:List Prt} {A F:Nat->Prop} {s:zab} {N:Nat}
theorem zix.more {E:List Prt} {B G:Nat->Prop} {ch:Chunk} (h:zix c H A F ch) (hA:∀ i,A i->B i) (hF:∀ i,F i->G i):zix c (H++E) B G ch:=by
 obtain ⟨n,h1,h2,h3,h4,h5,h6⟩:=h;exact ⟨n,h1,by rw [zy8];push_cast;omega,h3,fun i y hy hle=>(h4 i y (yfl hy zz0) hle).imp (hA i) (hF _),fun t ht=>by have:=h5 t ht;rw [zy8];push_cast;omega,fun i hlt hh=>hA i (h6 i hlt hh)⟩
theorem ytb (h:GS c L H A s) (hs:SI N s):GS c L H A (Snd.settle s):=by
 have hf:(Snd.settle s).fates=s.fates.mapIdx fun id f=>settled s id f:=rfl
 have hget:∀ k:Nat,(Snd.settle s).fates[k]?=(s.fates[k]?).map (settled s k):=fun k=>by rw [hf,zy76]
 have h3:∀ k:Nat,s.fates[k]?=some 3↔(Snd.settle s).fates[k]?=some 3:=by
  intro k;rw [hget];cases hz:s.fates[k]? with
  | none=>simp
  | some f =>
   show some f=some 3↔some (settled s k f)=some 3;unfold settled;split
   . rename_i c1;rw [c1.1];simp
   . rfl
 have hlen:=h.num hs;have hcu:=hs.cum;rw [h.cfg] at hcu;refine ⟨h.cfg,h.hi,h.len,h.out,h.stop,fun x hx h4=>(h3 _).1 (h.gone x hx h4),h.zgd,fun i y hy hle=>(h.done i y hy hle).imp (fun z=>z) (h3 _).1,h.ids,h.zfa,h.hand,h.handn,h.fresh,h.begun,h.mids,h.midn,fun id hid hne=>h.whole id hid fun h5=>hne ((h3 _).1 h5),fun id h2 i y hy he=>?_⟩;rw [hget] at h2;cases hz:s.fates[id]? with
 | none=>rw [hz] at h2;cases h2
 | some f =>
  rw [hz] at h2;have h2:settled s id f=2:=by simpa using h2
  unfold settled at h2;split at h2
  . rename_i c1
    obtain ⟨c2,c3,c4⟩:=c1;subst c2;by_cases hle:c.first+i<=s.cum
    . rcases h.done i y hy hle with h5 | h5
      . exact h5
      . rw [he,hz] at h5;cases h5
    . have hi:=zdz hy
      obtain ⟨k,hk⟩:∃ k,i=(s.cum+1-c.first).toNat+k:=⟨i-(s.cum+1-c.first).toNat,by omega⟩
      obtain ⟨x,hx⟩:∃ x,s.out[k]?=some x:=⟨_,zy2 zz0⟩
      obtain ⟨z,z1,z2,-⟩:=h.out k x hx;rw [<- hk,hy] at z1;cases z1;rw [zy125] at c4;have c5:=c4 x (zy4 hx);rw [hk];refine h.zgd k x hx ?_;apply Classical.byContradiction;intro hne;exact c5 (by rw [zy12];exact ⟨zy19 (by omega),zy19 hne⟩)
  . subst h2
    exact h.told id hz i y hy he
theorem yhk (s:zab) {k:Nat} (h:gF s k):gF (Snd.settle s) k:=by
 unfold gF at h ⊢;show (s.fates.mapIdx fun id f=>settled s id f)[k]?=_;rw [zy76,h];show some (settled s k 3)=some 3;rw [settled,zy0 (by rintro ⟨h,-⟩;cases h)]
theorem xan (h:GS c L H A s) (hs:SI N s) (hN:N<=500) {ch:Chunk} (ho:zix c H A (gF s) ch):GS c L H A (yfh s ch)/\∀ k,gF s k->gF (yfh s ch) k:=by
 obtain ⟨n,n1,n2,n3,n4,-,n5⟩:=ho;have hlen:=h.num hs;have hcap:=h.few hs;have hcu:=hs.cum;have hw:=zcj hs.cfg;rw [h.cfg] at hcu hw;have hnear:zdd s.cum ch.tag=n:=Rcv.zoh zz0 zz0 zz0 zz0 n3.symm;unfold yfh;by_cases c1:ch.kind≠2
 . rw [zy1 c1];exact ⟨h,fun _ h=>h⟩
 rw [zy0 c1];by_cases c2:zdd s.cum ch.tag<s.cum\/zdd s.cum ch.tag>s.cum+s.out.length
 . rw [zy1 c2];exact ⟨h,fun _ h=>h⟩
 rw [zy0 c2,zny];have hsi:=yca hs c2;have hfil:=zna hs.nums (show s.cum<=zdd s.cum ch.tag by omega);have e1:(Sco.zha s.out s.cum ch s.paths.length).1=(s.out.drop (n-s.cum).toNat).map fun x=>Sco.age (Sco.zgv ch n s.out) (Sco.zbi ch n x):=by
  rw [Sco.zha,zy0 c2];dsimp only;rw [Sco.left,hfil,zy95,hnear];rfl
 have e2:(Sco.zha s.out s.cum ch s.paths.length).2.1=n:=by rw [Sco.zha,zy0 c2];exact hnear
 rw [hnear] at c2;have hst:∀ x:zbp,(Sco.age (Sco.zgv ch n s.out) (Sco.zbi ch n x)).id=x.id/\(Sco.age (Sco.zgv ch n s.out) (Sco.zbi ch n x)).chunk=x.chunk /\
  ((x.state=4\/x.state=0)->(Sco.age (Sco.zgv ch n s.out) (Sco.zbi ch n x)).state=x.state)/\((Sco.age (Sco.zgv ch n s.out) (Sco.zbi ch n x)).state=4->x.state=4)/\((Sco.age (Sco.zgv ch n s.out) (Sco.zbi ch n x)).state=2->x.state=2\/Sco.here ch n x=true):=by
  intro x;have t:(Sco.zbi ch n x).id=x.id/\(Sco.zbi ch n x).chunk=x.chunk/\((x.state=4\/x.state=0)->(Sco.zbi ch n x).state=x.state)/\((Sco.zbi ch n x).state=4->x.state=4)/\((Sco.zbi ch n x).state=2->x.state=2\/Sco.here ch n x=true):=by
   unfold Sco.zbi;split
   . rename_i c3
     unfold Sco.comes at c3;simp only [zy12,zy75,zy37] at c3;exact ⟨rfl,rfl,fun h=>by omega,fun h=>by (cases h),fun _=>.inr c3.1⟩
   . exact ⟨rfl,rfl,fun _=>rfl,fun h=>h,.inl⟩
  obtain ⟨t1,t2,t3,t4,t5⟩:=t;generalize Sco.zbi ch n x=y at t1 t2 t3 t4 t5;unfold Sco.age;split
  . rename_i c3
    split
    . exact ⟨t1,t2,fun h=>by have:=t3 h;omega,fun h=>by (cases h),fun h=>by (cases h)⟩
    . exact ⟨t1,t2,t3,t4,t5⟩
  . exact ⟨t1,t2,t3,t4,t5⟩
 have hT:GS c L H A (zhd s ch (Sco.zha s.out s.cum ch s.paths.length)):=by
  have o1:(zhd s ch (Sco.zha s.out s.cum ch s.paths.length)).out=(s.out.drop (n-s.cum).toNat).map fun x=>Sco.age (Sco.zgv ch n s.out) (Sco.zbi ch n x):=e1
  have o2:(zhd s ch (Sco.zha s.out s.cum ch s.paths.length)).cum=n:=e2;have yvq:∀ k:Nat,(n+1-c.first).toNat+k=(s.cum+1-c.first).toNat+((n-s.cum).toNat+k):=fun k=>by omega
  refine ⟨h.cfg,h.hi,h.len,fun k x hx=>?_,fun x hx hd=>?_,fun x hx h4=>?_,fun k x hx h2=>?_,fun i y hy hle=>?_,h.ids,h.zfa,h.hand,h.handn,h.fresh,h.begun,h.mids,h.midn,h.whole,h.told⟩
  . rw [o1,zy16,zy48] at hx
    rw [o2,yvq];cases hy:s.out[(n-s.cum).toNat+k]? with
    | none=>rw [hy] at hx;cases hx
    | some y =>
     rw [hy] at hx;cases hx;obtain ⟨w,w1,w2,w3⟩:=h.out _ y hy;exact ⟨w,w1,(hst y).1.trans w2,(hst y).2.1.trans w3⟩
  . rw [o1] at hx
    obtain ⟨y,hy,rfl⟩:=zy18.1 hx;rw [(hst y).2.1] at hd;have h5:=h.stop y (zy77 hy) hd;rw [(hst y).2.2.1 h5];exact h5
  . rw [o1] at hx
    obtain ⟨y,hy,rfl⟩:=zy18.1 hx;rw [(hst y).1];exact h.gone y (zy77 hy) ((hst y).2.2.2.1 h4)
  . rw [o1,zy16,zy48] at hx
    rw [o2,yvq];cases hy:s.out[(n-s.cum).toNat+k]? with
    | none=>rw [hy] at hx;cases hx
    | some y =>
     rw [hy] at hx;cases hx;rcases (hst y).2.2.2.2 h2 with h5 | h5
     . exact h.zgd _ y hy h5
     . have hnum:=hs.nums _ y hy
       have hk:=zdz hy;unfold Sco.here at h5;rw [zy75,zy34] at h5;rcases h5 with h5 | h5
       . omega
       . rw [zbn (by omega) (by omega)] at h5
         refine n5 _ zz0 ?_;rw [show c.first+(((s.cum+1-c.first).toNat+((n-s.cum).toNat+k):Nat):Int)-n=y.number-n by rw [hnum];omega];exact h5
  . rw [o2] at hle
    exact n4 i y hy hle
 have hU:GS c L H A (zhs s.config.part (zhd s ch (Sco.zha s.out s.cum ch s.paths.length)) (Sco.zha s.out s.cum ch s.paths.length).2.2.2):=by
  unfold zhs;split
  . exact hT
  . split
    . exact hT.congr rfl rfl rfl rfl rfl rfl rfl rfl
    . exact hT
 have hUs:=ycb hsi (part:=s.config.part) (L:=(Sco.zha s.out s.cum ch s.paths.length).2.2.2);have hUf:(zhs s.config.part (zhd s ch (Sco.zha s.out s.cum ch s.paths.length)) (Sco.zha s.out s.cum ch s.paths.length).2.2.2).fates=s.fates:=by
  unfold zhs;split
  . rfl
  . split<;>rfl
 generalize zhs s.config.part (zhd s ch (Sco.zha s.out s.cum ch s.paths.length)) (Sco.zha s.out s.cum ch s.paths.length).2.2.2=u at hU hUs hUf;generalize decide ((Sco.zha s.out s.cum ch s.paths.length).2.1>s.cum)=b;have hV:GS c L H A (zfy b u):=by
  unfold zfy;split
  . exact hU.congr rfl rfl rfl rfl rfl rfl rfl rfl
  . exact hU
 have hVf:(zfy b u).fates=u.fates:=by unfold zfy;split<;>rfl
 refine ⟨ytb hV (ycc hUs),fun k hk=>yhk _ ?_⟩;unfold gF at hk ⊢;rw [hVf,hUf];exact hk
theorem ywg (h:GS c L H A s) (part:Int) (i:Nat):GS c L H A (zib part s i)/\(zib part s i).fates=s.fates:=by
 unfold zib;split
 . exact ⟨h,rfl⟩
 rename_i p hp;split
 . exact ⟨h,rfl⟩
 have g:=h.mapOut (g:=Sco.late i) (fun x=>by unfold Sco.late;split<;>exact ⟨rfl,rfl⟩) (fun x _ _ hx=>by
  unfold Sco.late;split
  . rename_i c1;omega
  . exact hx) (fun x _ hx=>by
  unfold Sco.late at hx;split at hx
  . cases hx
  . exact .inl hx) (fun x _ hx=>by
  unfold Sco.late at hx;split at hx
  . cases hx
  . exact hx)
 dsimp only;split
 . exact ⟨g.congr rfl rfl rfl rfl rfl rfl rfl rfl,rfl⟩
 . exact ⟨g.congr rfl rfl rfl rfl rfl rfl rfl rfl,rfl⟩
theorem ykh (part:Int):∀ (l:List Nat) {s:zab},GS c L H A s->GS c L H A (l.foldl (zib part) s)/\(l.foldl (zib part) s).fates=s.fates
 | [],_,h=>⟨h,rfl⟩
 | i::l,s,h=>by
  obtain ⟨h1,h2⟩:=ywg h part i;obtain ⟨k1,k2⟩:=ykh part l h1;exact ⟨k1,k2.trans h2⟩
theorem xcd (h:GS c L H A s):GS c L H A (tick s)/\(tick s).fates=s.fates :=
 ykh _ _ (s:={s with clock:=W (s.clock+1)}) (h.congr rfl rfl rfl rfl rfl rfl rfl rfl)
theorem xbw (h:GS c L H A s) (hs:SI N s) (hk:KI L s) (m:Message):GS c (L++[m]) H A (zjm s m)/\∀ k,gF s k->gF (zjm s m) k:=by
 have hkl:=hk.len;have hmore:∀ {i:Nat} {w:Message},L[i]?=some w->(L++[m])[i]?=some w:=fun h=>zio h
 have hidl:∀ x∈H,x.id<L.length:=fun x hx=>by obtain ⟨w,w1,-⟩:=h.hi.msg x hx;exact zdz w1
 have hg:∀ k:Nat,s.fates[k]?=some 3->(s.fates++[1])[k]?=some 3:=fun k hk=>zio hk
 have hg2:∀ (k:Nat) (z:Int),z≠1->(s.fates++[1])[k]?=some z->s.fates[k]?=some z:=fun k z hz hk=>by
  rcases zes hk with hk | ⟨-,rfl⟩
  . exact hk
  . exact absurd rfl hz
 have hq:∀ q∈(zjm s m).queue,q∈s.queue\/q=⟨s.fates.length,-1,s.clock,0,0,m⟩:=fun q hq=>by
  rcases zy11.1 hq with hq | hq
  . exact .inl hq
  . exact .inr (zy9.1 hq)
 refine ⟨⟨h.cfg,⟨h.hi.tag,fun x hx=>?_,h.hi.mid,h.hi.key,h.hi.order,h.hi.part⟩,h.len,h.out,h.stop,fun x hx h4=>hg _ (h.gone x hx h4),h.zgd,fun i y hy hle=>(h.done i y hy hle).imp (fun z=>z) (hg _),fun q hq'=>?_,?_,fun q hq' hh=>?_,?_,fun q hq' hmn=>?_,fun q hq' hmn=>?_,h.mids,h.midn,fun id hid h3=>?_,fun id h2=>h.told id (hg2 id 2 zz5 h2)⟩,hg⟩
 . obtain ⟨w,w1,w2⟩:=h.hi.msg x hx
   exact ⟨w,hmore w1,w2⟩
 . rcases hq q hq' with hq' | rfl
   . exact h.ids q hq'
   . show (0:Int)<=s.fates.length;omega
 . refine zy104.2 ⟨h.zfa,by simp,fun a ha b hb=>?_⟩
   rw [zy9] at hb;subst hb;exact (hs.queue a ha).id1
 . have hh:q.id=s.sched.hand:=hh
   rcases hq q hq' with hq' | rfl
   . exact h.hand q hq' hh
   . have:=h.handn
     have hh:(s.fates.length:Int)=s.sched.hand:=hh;omega
 . have:=h.handn
   show s.sched.hand<((L++[m]).length:Int);rw [zy8];push_cast;omega
 . rcases hq q hq' with hq' | rfl
   . exact h.fresh q hq' hmn
   . refine ⟨rfl,fun y hy _=>?_⟩
     have:=hidl y hy;show (y.id:Int)<s.fates.length;omega
 . rcases hq q hq' with hq' | rfl
   . exact h.begun q hq' hmn
   . have hmn:(0:Int)<=-1:=hmn
     omega
 . rw [zy8,zy50] at hid
   by_cases e:id=L.length
   . exact .inl ⟨⟨s.fates.length,-1,s.clock,0,0,m⟩,zy158 _ zz4,by show (s.fates.length:Int)=id;omega⟩
   . rcases h.whole id zz0 fun h5=>h3 (hg _ h5) with ⟨q,e1,e2⟩ | e1
     . exact .inl ⟨q,zy61 _ e1,e2⟩
     . right
       intro w hw;rcases zes hw with hw | ⟨hw,-⟩
       . exact e1 w hw
       . exact absurd hw e
theorem xeg {c:Config} (hw:zpe c=0) (A:Nat->Prop):GS c [] [] A (zrb c):=by
 have h2:=zcj hw;refine ⟨rfl,⟨by simp,by simp,by simp,by simp,by simp,by simp⟩,by show c.first+((([]:List Prt).length:Nat):Int)=c.first;simp,by simp [zrb],by simp [zrb],by simp [zrb],by simp [zrb],by simp,by simp [zrb],by simp [zrb],by simp [zrb],by show (-1:Int)<_;simp,by simp [zrb],by simp [zrb],by simp,fun n hn=>?_,by simp,by simp [zrb]⟩;have:n=0:=zy57 hn;subst this;simp
end
end Gh
namespace Gh
open Ser Srt Jn Rcv
def ypd (L:List Message) (H:List Prt) (id:Nat) (a:zbw):Prop:=∃ m,L[id]?=some m/\a.stream=m.stream/\a.ordered=m.ordered/\a.data=m.data/\∃ y∈H,y.id=id
structure GR (c:Config) (L:List Message) (H:List Prt) (A F:Nat->Prop) (D:List Nat) (r:Receiver):Prop where
 lo:c.first-1<=r.cum
 hi:r.cum<c.first+H.length
 zfa:Ser.zfa r.zax
 zec:∀ s∈r.zax,r.cum+1<s.lo
 spanh:∀ s∈r.zax,s.hi<c.first+H.length
 span:∀ i:Nat,has r.zax (c.first+i)=true->A i
 cum:∀ (i:Nat) y,H[i]?=some y->c.first+i<=r.cum->A i\/F y.id
 acc:∀ i:Nat,A i->i<H.length/\(c.first+i<=r.cum\/has r.zax (c.first+i)=true)
 pieces:∀ p∈r.pieces,∃ (i:Nat) (y:Prt),H[i]?=some y/\p.number=c.first+i/\p.chunk=y.chunk/\y.chunk.data≠[]/\A i/\y.id∉D
 apart:r.pieces.Pairwise fun p q=>p.number≠q.number
 kept:∀ (i:Nat) y,H[i]?=some y->A i->(∃ p∈r.pieces,p.number=c.first+i)\/y.id∈D\/F y.id
 logl:D.length=r.log.length
 log:∀ (k:Nat) id a,D[k]?=some id->r.log[k]?=some a->ypd L H id a
 once:D.Nodup
 dall:∀ id∈D,Whole c L H id/\∀ (i:Nat) y,H[i]?=some y->y.id=id->y.chunk.data≠[]->A i
 streams:(r.zbi.length:Int)=c.streams
 turn0:∀ t∈r.zbi,0<=t
 zbi:∀ (k:Nat) t,r.zbi[k]?=some t->t=0\/∃ y∈H,y.chunk.stream=k/\y.chunk.ordered=true/\t<=y.chunk.mid+1
 past:∀ (k:Nat) t,r.zbi[k]?=some t->∀ y∈H,y.chunk.stream=k->y.chunk.ordered=true->y.chunk.mid<t->y.id∈D\/F y.id
 dturn:∀ (k:Nat) t,r.zbi[k]?=some t->∀ y∈H,y.id∈D->y.chunk.stream=k->y.chunk.ordered=true->y.chunk.mid<t
 dord:D.Pairwise fun a b=>∀ x∈H,∀ y∈H,x.id=a->y.id=b->Cls x.chunk y.chunk->x.chunk.ordered=true->a<b
section
variable {c:Config} {L:List Message} {H:List Prt} {A F:Nat->Prop} {D:List Nat} {r:Receiver}
theorem ypd.more {E:List Prt} {M:List Message} {id:Nat} {a:zbw} (h:ypd L H id a):ypd (L++M) (H++E) id a:=by
 obtain ⟨m,h1,h2,h3,h4,y,h5,h6⟩:=h;exact ⟨m,zio h1,h2,h3,h4,y,zy61 _ h5,h6⟩
theorem GR.goneMore {G:Nat->Prop} (h:GR c L H A F D r) (hF:∀ k,F k->G k):GR c L H A G D r :=
 ⟨h.lo,h.hi,h.zfa,h.zec,h.spanh,h.span,fun i y h1 h2=>(h.cum i y h1 h2).imp id (hF _),h.acc,h.pieces,h.apart,fun i y h1 h2=>(h.kept i y h1 h2).imp id (Or.imp id (hF _)),h.logl,h.log,h.once,h.dall,h.streams,h.turn0,h.zbi,fun k t h1 y h2 h3 h4 h5=>(h.past k t h1 y h2 h3 h4 h5).imp id (hF _),h.dturn,h.dord⟩
theorem Whole.lmore {M:List Message} {id:Nat} (h:Whole c L H id) (hid:id<L.length):Whole c (L++M) H id:=fun m hm=>h m (by rwa [zy22 hid] at hm)
theorem GR.lMore (h:GR c L H A F D r) (m:Message):GR c (L++[m]) H A F D r:=by
 have hl:∀ id∈D,id<L.length:=fun id hid=>by
  obtain ⟨k,hk⟩:=zy46 hid;obtain ⟨w,w1,-⟩:=h.log k id (r.log[k]'(by rw [<- h.logl];exact zdz hk)) hk (zy2 _);exact zdz w1
 exact ⟨h.lo,h.hi,h.zfa,h.zec,h.spanh,h.span,h.cum,h.acc,h.pieces,h.apart,h.kept,h.logl,fun k id a h1 h2=>by have:=(h.log k id a h1 h2).more (E:=[]) (M:=[m]);rwa [zy7] at this,h.once,fun id hid=>⟨(h.dall id hid).1.lmore (hl id hid),(h.dall id hid).2⟩,h.streams,h.turn0,h.zbi,h.past,h.dturn,h.dord⟩
theorem GR.ext (h:GR c L H A F D r) {E:List Prt} (hn:HI c L (H++E)):GR c L (H++E) A F D r:=by
 have hold:∀ {i:Nat} {y:Prt},(H++E)[i]?=some y->i<H.length->H[i]?=some y:=fun h1 h2=>yfl h1 h2
 have hmem:∀ {y:Prt},y∈H->y∈H++E:=fun h=>zy61 _ h
 have hlen:((H++E).length:Int)=H.length+E.length:=by rw [zy8];push_cast;rfl
 have hdid:∀ id∈D,∃ y∈H,y.id=id:=fun id hid=>by
  obtain ⟨k,hk⟩:=zy46 hid;obtain ⟨-,-,-,-,-,y,y1,y2⟩:=h.log k id (r.log[k]'(by rw [<- h.logl];exact zdz hk)) hk (zy2 _);exact ⟨y,y1,y2⟩
 have hrep:∀ y∈H++E,∀ y1∈H,Cls y.chunk y1.chunk->y.chunk.mid<=y1.chunk.mid->∃ z∈H,z.id=y.id/\z.chunk.mid=y.chunk.mid/\Cls z.chunk y.chunk:=by
  intro y hy y1 hy1 hc hle;rcases zy11.1 hy with h2 | h2
  . exact ⟨y,h2,rfl,rfl,⟨rfl,rfl⟩⟩
  . obtain ⟨j,hj⟩:=zy46 h2
    obtain ⟨i,hi⟩:=zy46 hy1;have k1:=hn.order i (H.length+j) y1 y (by have:=zdz hi;omega) (zio hi) (by rw [zy35 (by omega),zy149];exact hj) hc.symm;have k2:=hn.key y1 (hmem hy1) y hy hc.symm;have k3:=(hn.same hy (hmem hy1) hc).1;have e:y.id=y1.id:=by omega
    exact ⟨y1,hy1,e.symm,(k3 e).symm,hc.symm⟩
 refine ⟨h.lo,by have:=h.hi;omega,h.zfa,h.zec,fun s hs=>by have:=h.spanh s hs;omega,h.span,fun i y hy hle=>h.cum i y (hold hy (by have:=h.hi;omega)) hle,fun i hi=>⟨by have:=(h.acc i hi).1;rw [zy8];omega,(h.acc i hi).2⟩,fun p hp=>?_,h.apart,fun i y hy hA=>h.kept i y (hold hy (h.acc i hA).1) hA,h.logl,fun k id a h1 h2=>?_,h.once,fun id hid=>⟨(h.dall id hid).1.more,fun i y hy he hd=>?_⟩,h.streams,h.turn0,fun k t hk=>?_,fun k t hk y hy h1 h2 h3=>?_,fun k t hk y hy hd h1 h2=>?_,?_⟩
 . obtain ⟨i,y,p1,p2⟩:=h.pieces p hp
   exact ⟨i,y,zio p1,p2⟩
 . have:=(h.log k id a h1 h2).more (E:=E) (M:=[])
   rwa [zy7] at this
 . obtain ⟨w1,w2⟩:=h.dall id hid
   rcases zy62 i H.length with hl | hl
   . exact w2 i y (hold hy hl) he hd
   . exfalso
     obtain ⟨m,m1,-,-,m2⟩:=hn.msg y (zy4 hy);have mp:=m2 hd;rw [he] at m1;obtain ⟨z,z1,z2,z3,-⟩:=w1 m m1 y.chunk.part.toNat (by have:=mp.part0;have:=mp.inn;rw [Int.toNat_of_nonneg mp.part0];exact mp.inn);obtain ⟨j,hj⟩:=zy46 z1;have:=hn.at (zio hj) hy zz0 (by have:=mp.part0;omega);have:=zdz hj;omega
 . rcases h.zbi k t hk with h1 | ⟨y,y1,y2⟩
   . exact .inl h1
   . exact .inr ⟨y,hmem y1,y2⟩
 . rcases h.zbi k t hk with h4 | ⟨y1,q1,q2,q3,q4⟩
   . have:=hn.mid y hy;omega
   . obtain ⟨z,z1,z2,z3,z4⟩:=hrep y hy y1 q1 ⟨h1.trans q2.symm,h2.trans q3.symm⟩ zz0
     rw [<- z2];exact h.past k t hk z z1 (z4.1.trans h1) (z4.2.trans h2) zz0
 . obtain ⟨z,z1,z2⟩:=hdid y.id hd
   have zc:=hn.cls (hmem z1) hy z2;have zm:=(hn.same (hmem z1) hy zc).1 z2;rw [<- zm];exact h.dturn k t hk z z1 (by rw [z2];exact hd) (zc.1.trans h1) (zc.2.trans h2)
 . refine h.dord.imp_of_mem fun {a b} ha hb hab x hx y hy hxa hyb hc ho=>?_
   obtain ⟨x',x1,x2⟩:=hdid a ha;obtain ⟨y',y1,y2⟩:=hdid b hb;have xc:=hn.cls (hmem x1) hx (x2.trans hxa.symm);have yc:=hn.cls (hmem y1) hy (y2.trans hyb.symm);exact hab x' x1 y' y1 x2 y2 (xc.trans (hc.trans yc.symm)) (xc.2.trans ho)
theorem GR.turnB (h:GR c L H A F D r) (hi:HI c L H) {k:Nat} {t:Int} (hk:r.zbi[k]?=some t):0<=t/\t<=H.length:=by
 refine ⟨h.turn0 t (zy4 hk),?_⟩;rcases h.zbi k t hk with h1 | ⟨y,y1,-,-,y2⟩
 . omega
 . have:=hi.mid y y1;omega
structure Dlv (c:Config) (L:List Message) (H:List Prt) (A:Nat->Prop) (D:List Nat) (r:Receiver) (s m:Int) (o:Bool) (b:List UInt8) (id:Nat) (w:Message):Prop where
 msg:L[id]?=some w
 new:id∉D
 stream:w.stream=s
 ord:w.ordered=o
 data:b=w.data
 one:∃ y∈H,y.id=id
 zfj:∀ y∈H,y.id=id↔(y.chunk.stream=s/\y.chunk.ordered=o/\y.chunk.mid=m)
 whole:Whole c L H id
 all:∀ (i:Nat) y,H[i]?=some y->y.id=id->y.chunk.data≠[]->A i
theorem zkc {s m:Int} {o:Bool} {p:zaw}:zfj s m o p=true↔p.chunk.stream=s/\p.chunk.ordered=o/\p.chunk.mid=m:=by
 unfold zfj;simp only [zy12,zy34,zy37];exact ⟨fun h=>⟨h.1.1,h.2,h.1.2⟩,fun h=>⟨⟨h.1,h.2.2⟩,h.2.1⟩⟩
theorem yin (h:GR c L H A F D r) (hi:HI c L H) (hP:1<=c.part) {s m:Int} {o:Bool} {b:List UInt8} (hj:join (r.pieces.filter (zfj s m o))=some b):∃ id w,Dlv c L H A D r s m o b id w:=by
 have hmul:∀ {a b:Int},a<=b->a*c.part<=b*c.part:=fun hab=>zy101 hab zz0
 obtain ⟨p0,hp0⟩:∃ p,p∈r.pieces.filter (zfj s m o):=List.exists_mem_of_length_pos (zyz hj);obtain ⟨g1,g2⟩:=zy40.1 hp0;obtain ⟨k1,k2,k3⟩:=zkc.1 g2;obtain ⟨i0,y0,q1,q2,q3,q4,q5,q6⟩:=h.pieces p0 g1;rw [q3] at k1 k2 k3;have hy0:=zy4 q1;obtain ⟨w,w1,w2,w3,w4⟩:=hi.msg y0 hy0;have hsame:∀ y∈H,y.id=y0.id↔(y.chunk.stream=s/\y.chunk.ordered=o/\y.chunk.mid=m):=by
  intro y hy
  constructor
  . intro e
    have hc:=hi.cls hy hy0 e;exact ⟨hc.1.trans k1,hc.2.trans k2,((hi.same hy hy0 hc).1 e).trans k3⟩
  . rintro ⟨e1,e2,e3⟩
    have hc:Cls y.chunk y0.chunk:=⟨e1.trans k1.symm,e2.trans k2.symm⟩
    exact (hi.same hy hy0 hc).2 (e3.trans k3.symm)
 have hpart:∀ p∈r.pieces.filter (zfj s m o),∃ (i:Nat) (y:Prt),H[i]?=some y/\y.id=y0.id/\p.chunk=y.chunk/\A i/\y.chunk.data≠[]/\znr c.part w p.chunk:=by
  intro p hp;obtain ⟨g3,g4⟩:=zy40.1 hp;obtain ⟨i,y,z1,z2,z3,z4,z5,z6⟩:=h.pieces p g3;have hy:=zy4 z1;have e:y.id=y0.id:=(hsame y hy).2 (by rw [<- z3];exact zkc.1 g4);obtain ⟨v,v1,v2,v3,v4⟩:=hi.msg y hy;rw [e,w1] at v1;cases v1;exact ⟨i,y,z1,e,z3,z5,z4,by rw [z3];exact v4 z4⟩
 have hbd:(w.data.length:Int)<=(r.pieces.filter (zfj s m o)).length*c.part:=by
  have hl:=zyz hj;obtain ⟨p,hp,e1,e2⟩:=zpr hj ((r.pieces.filter (zfj s m o)).length-1) zz0;obtain ⟨-,-,-,-,-,-,-,hpo⟩:=hpart p hp;have hl2:=hpo.last;rw [e2,e1,zy19 (by omega)] at hl2;have hl3:=zy36 hl2.symm;have e3:(((r.pieces.filter (zfj s m o)).length:Nat):Int)*c.part=(((r.pieces.filter (zfj s m o)).length-1:Nat):Int)*c.part+c.part:=by
   have:(((r.pieces.filter (zfj s m o)).length:Nat):Int)=(((r.pieces.filter (zfj s m o)).length-1:Nat):Int)+1:=by omega
   rw [this,Int.add_mul,Int.one_mul]
  omega
 have hlt:∀ j:Nat,(j:Int)*c.part<w.data.length->j<(r.pieces.filter (zfj s m o)).length:=by
  intro j hj2;apply Classical.byContradiction;intro hc;have:=hmul (show (((r.pieces.filter (zfj s m o)).length:Nat):Int)<=j by omega);omega
 refine ⟨y0.id,w,w1,q6,w2.symm.trans k1,w3.symm.trans k2,yke hP hj fun p hp=>by obtain ⟨-,-,-,-,-,-,-,hpo⟩:=hpart p hp;exact hpo,⟨y0,hy0,rfl⟩,hsame,fun v hv j hjp=>?_,fun i y hy he hd=>?_⟩
 . rw [w1] at hv
   cases hv;obtain ⟨p,hp,e1,-⟩:=zpr hj j (hlt j hjp);obtain ⟨i,y,z1,z2,z3,z4,z5,-⟩:=hpart p hp;exact ⟨y,zy4 z1,z2,by rw [<- z3];exact e1,z5⟩
 . obtain ⟨v,v1,v2,v3,v4⟩:=hi.msg y (zy4 hy)
   rw [he,w1] at v1;cases v1;have hpo:=v4 hd;have p0:=hpo.part0;obtain ⟨p,hp,e1,-⟩:=zpr hj y.chunk.part.toNat (hlt _ (by rw [Int.toNat_of_nonneg p0];exact hpo.inn));obtain ⟨i',y',z1,z2,z3,z4,z5,-⟩:=hpart p hp;have:=hi.at hy z1 (he.trans z2.symm) (by rw [<- z3,e1];omega);rw [this];exact z4
theorem ybf (h:GR c L H A F D r) {s m:Int} {o:Bool} {b:List UInt8} {id:Nat} {w:Message} (hd:Dlv c L H A D r s m o b id w) :
 (∀ p∈r.pieces.filter (fun p=>!zfj s m o p),∃ (i:Nat) (y:Prt),H[i]?=some y/\p.number=c.first+i/\p.chunk=y.chunk/\y.chunk.data≠[]/\A i/\y.id∉D++[id]) /\
 (∀ (i:Nat) y,H[i]?=some y->A i->(∃ p∈r.pieces.filter (fun p=>!zfj s m o p),p.number=c.first+i)\/y.id∈D++[id]\/F y.id) /\
 (∀ (k:Nat) id' a,(D++[id])[k]?=some id'->(r.log++[(⟨s,m,o,b⟩:zbw)])[k]?=some a->ypd L H id' a)/\(D++[id]).Nodup /\
 (∀ id'∈D++[id],Whole c L H id'/\∀ (i:Nat) y,H[i]?=some y->y.id=id'->y.chunk.data≠[]->A i):=by
 refine ⟨fun p hp=>?_,fun i y hy hA=>?_,fun k id' a h1 h2=>?_,?_,fun id' hid=>?_⟩
 . obtain ⟨g1,g2⟩:=zy40.1 hp
   obtain ⟨i,y,z1,z2,z3,z4,z5,z6⟩:=h.pieces p g1;refine ⟨i,y,z1,z2,z3,z4,z5,fun hin=>?_⟩;rcases zy11.1 hin with hin | hin
   . exact z6 hin
   . rw [zy9] at hin
     have:=(hd.zfj y (zy4 z1)).1 hin;rw [<- z3] at this;rw [zkc.2 this] at g2;cases g2
 . rcases h.kept i y hy hA with ⟨p,p1,p2⟩ | h1 | h1
   . by_cases hm:zfj s m o p=true
     . obtain ⟨i',y',z1,z2,z3,z4,z5,z6⟩:=h.pieces p p1
       have:i'=i:=by omega
       subst this;rw [hy] at z1;cases z1
       right;left
       rw [(hd.zfj y (zy4 hy)).2 (by rw [<- z3];exact zkc.1 hm)];simp
     . exact .inl ⟨p,zy40.2 ⟨p1,by simp at hm;simp [hm]⟩,p2⟩
   . exact .inr (.inl (zy61 _ h1))
   . exact .inr (.inr h1)
 . rcases zes h1 with h1 | ⟨rfl,rfl⟩
   . rw [zy22 (by rw [<- h.logl];exact zdz h1)] at h2
     exact h.log k id' a h1 h2
   . rw [h.logl,zy35 (zy25 _),zy90] at h2
     cases h2;exact ⟨w,hd.msg,hd.stream.symm,hd.ord.symm,hd.data,hd.one⟩
 . rw [zy150]
   exact ⟨h.once,by simp,fun a ha b hb=>by rw [zy9] at hb;subst hb;exact fun e=>hd.new (e ▸ ha)⟩
 . rcases zy11.1 hid with hid | hid
   . exact h.dall id' hid
   . rw [zy9] at hid;subst hid;exact ⟨hd.whole,hd.all⟩
theorem ybe (r:Receiver) (s m:Int) (o:Bool) (hj:join (r.pieces.filter (zfj s m o))=none):dlv r s m o=(r,false):=by unfold dlv;rw [hj]
theorem zyb (r:Receiver) (s m:Int) (o:Bool) {b:List UInt8} (hj:join (r.pieces.filter (zfj s m o))=some b):dlv r s m o=({zpj r s m o with log:=r.log++[⟨s,m,o,b⟩]},true):=by unfold dlv;rw [hj]
theorem xdl (h:GR c L H A F D r) (hi:HI c L H) (hP:1<=c.part) (s m:Int):∃ D',GR c L H A F D' (dlv r s m false).1:=by
 cases hj:join (r.pieces.filter (zfj s m false)) with
 | none=>rw [ybe r s m false hj];exact ⟨D,h⟩
 | some b =>
  rw [zyb r s m false hj];obtain ⟨id,w,hd⟩:=yin h hi hP hj;obtain ⟨a1,a2,a3,a4,a5⟩:=ybf h hd;refine ⟨D++[id],h.lo,h.hi,h.zfa,h.zec,h.spanh,h.span,h.cum,h.acc,a1,h.apart.filter _,a2,by show (D++[id]).length=(r.log++[_]).length;simp [h.logl],a3,a4,a5,h.streams,h.turn0,h.zbi,fun k t hk y hy h1 h2 h3=>(h.past k t hk y hy h1 h2 h3).imp (zy61 _) (fun z=>z),fun k t hk y hy hy2 h1 h2=>?_,?_⟩
  . rcases zy11.1 hy2 with hy2 | hy2
    . exact h.dturn k t hk y hy hy2 h1 h2
    . rw [zy9] at hy2
      have:=((hd.zfj y hy).1 hy2).2.1;rw [h2] at this;cases this
  . refine zy104.2 ⟨h.dord,by simp,fun a ha b' hb x hx y hy hxa hyb hc ho=>?_⟩
    rw [zy9] at hb;subst hb;have:=((hd.zfj y hy).1 hyb).2.1;rw [<- hc.2,ho] at this;cases this
theorem zin {l:List Int} {k:Nat} {t:Int} (hk:l[k]?=some t) {j:Nat} {u:Int} (hu:(l.set k (l[k]?.getD 0+1))[j]?=some u):(j=k/\u=t+1)\/(j≠k/\l[j]?=some u):=by
 by_cases e:k=j
 . subst e
   rw [zy20 (zdz hk),hk] at hu;cases hu;exact .inl ⟨rfl,rfl⟩
 . rw [zy49 e] at hu;exact .inr ⟨fun h=>e h.symm,hu⟩
theorem yyf (h:GR c L H A F D r) (hi:HI c L H) (hP:1<=c.part) (hs:H.length<=30500) {k:Nat} {t:Int} (hk:r.zbi[k]?=some t) (hok:(dlv r k (tag t) true).2=true):∃ D',GR c L H A F D' (yox (dlv r k (tag t) true).1 k):=by
 obtain ⟨t0,t1⟩:=h.turnB hi hk;have htag:tag t=t:=by unfold tag;omega
 rw [htag] at hok ⊢;cases hj:join (r.pieces.filter (zfj k t true)) with
 | none=>rw [ybe r k t true hj] at hok;cases hok
 | some b =>
  rw [zyb r k t true hj];obtain ⟨id,w,hd⟩:=yin h hi hP hj;obtain ⟨a1,a2,a3,a4,a5⟩:=ybf h hd;obtain ⟨y0,y1,y2⟩:=hd.one;obtain ⟨m1,m2,m3⟩:=(hd.zfj y0 y1).1 y2;refine ⟨D++[id],h.lo,h.hi,h.zfa,h.zec,h.spanh,h.span,h.cum,h.acc,a1,h.apart.filter _,a2,by show (D++[id]).length=(r.log++[_]).length;simp [h.logl],a3,a4,a5,by show ((r.zbi.set _ _).length:Int)=_;rw [zy26];exact h.streams,fun u hu=>?_,fun j u hu=>?_,fun j u hu y hy h1 h2 h3=>?_,fun j u hu y hy hy2 h1 h2=>?_,?_⟩
  . obtain ⟨j,hj2⟩:=zy46 hu
    rcases zin hk hj2 with ⟨-,rfl⟩ | ⟨-,hu⟩
    . omega
    . exact h.turn0 u (zy4 hu)
  . rcases zin hk hu with ⟨rfl,rfl⟩ | ⟨-,hu⟩
    . exact .inr ⟨y0,y1,m1,m2,by omega⟩
    . exact h.zbi j u hu
  . rcases zin hk hu with ⟨rfl,rfl⟩ | ⟨-,hu⟩
    . by_cases e:y.chunk.mid=t
      . left;rw [(hd.zfj y hy).2 ⟨h1,h2,e⟩];simp
      . exact (h.past j t hk y hy h1 h2 zz0).imp (zy61 _) (fun z=>z)
    . exact (h.past j u hu y hy h1 h2 h3).imp (zy61 _) (fun z=>z)
  . rcases zin hk hu with ⟨rfl,rfl⟩ | ⟨hne,hu⟩
    . rcases zy11.1 hy2 with hy2 | hy2
      . have:=h.dturn j t hk y hy hy2 h1 h2;omega
      . rw [zy9] at hy2
        have:=((hd.zfj y hy).1 hy2).2.2;omega
    . rcases zy11.1 hy2 with hy2 | hy2
      . exact h.dturn j u hu y hy hy2 h1 h2
      . rw [zy9] at hy2
        have:=((hd.zfj y hy).1 hy2).1;omega
  . refine zy104.2 ⟨h.dord,by simp,fun a ha b' hb x hx y hy hxa hyb hc ho=>?_⟩
    rw [zy9] at hb;subst hb;obtain ⟨e1,e2,e3⟩:=(hd.zfj y hy).1 hyb;have e4:=h.dturn k t hk x hx (by rw [hxa];exact ha) (hc.1.trans e1) ho;rw [<- hxa,<- hyb];exact (hi.key x hx y hy hc).2 zz0
theorem zux (hi:HI c L H) (hP:1<=c.part) (hs:H.length<=30500) (k:Nat):∀ (n:Nat) {D:List Nat} {r:Receiver},GR c L H A F D r->k<r.zbi.length->∃ D',GR c L H A F D' (zpb n r k)
 | 0,D,r,h,_=>⟨D,h⟩
 | n+1,D,r,h,hk=>by
  obtain ⟨t,ht⟩:∃ t,r.zbi[k]?=some t:=⟨_,zy2 hk⟩
  rw [zpb];rw [show r.zbi[k]?.getD 0=t by rw [ht];rfl];have hlen:=(zjb r k (tag t) true).1;by_cases hok:(dlv r k (tag t) true).2=true
  . rw [zy1 hok]
    obtain ⟨D',h'⟩:=yyf h hi hP hs ht hok;exact zux hi hP hs k n h' (by show k<(List.set _ _ _).length;rw [zy26,hlen];exact hk)
  . rw [zy0 hok]
    have:(dlv r k (tag t) true).1=r:=by
     cases hj:join (r.pieces.filter (zfj k (tag t) true)) with
     | none=>rw [ybe r k (tag t) true hj]
     | some b=>rw [zyb r k (tag t) true hj] at hok;exact absurd rfl hok
    rw [this];exact ⟨D,h⟩
end
end Gh
namespace Gh
open Ser Srt Jn Rcv
theorem xcj:∀ {l:List Span} {n m:Int} (_:Ser.zfa l),(m<=(up l n).1\/has (up l n).2 m=true)->m<=n\/has l m=true
 | [],n,m,_,h=>by simpa [up] using h
 | s::r,n,m,h,hm=>by
  rw [up] at hm;split at hm
  . rename_i c1
    rcases xcj h.2.2.2.2 hm with h1 | h1
    . rw [zjx]
      split at h1
      . by_cases c2:m<=n
        . exact .inl c2
        . right
          rw [zy75];left;simp only [zy12,zy34];omega
      . exact .inl h1
    . right;rw [zjx,h1,Bool.or_true]
  . exact hm
theorem yze {l:List Span} {n m:Int} (h:Ser.zfa l) (hm:m<=n\/has l m=true):m<=(up l n).1\/has (up l n).2 m=true:=by
 rcases hm with hm | hm
 . have:=(zlr (n:=n) h).1;exact .inl zz0
 . exact xey h hm
section
variable {c:Config} {L:List Message} {H:List Prt} {A F:Nat->Prop} {D:List Nat} {r:Receiver}
theorem xeq (h:GR c L H A F D r) (hs:H.length<=30500) {ch:Chunk} {i:Nat} {y:Prt} (hi:HI c L H) (hc0:0<=c.first/\c.first<65536) (hy:H[i]?=some y) (hch:ch=y.chunk) (hd:ch.data≠[]) (ht:yar r ch (zdd r.cum ch.tag)) :
 GR c L H (fun j=>A j\/j=i) F D (put r ch):=by
 obtain ⟨t1,t2,t3,t4,t5⟩:=hi.tag i y hy;have hil:=zdz hy;have hlo:=h.lo;have hhi:=h.hi;have htag:tag (c.first+i)=tag ch.tag:=by rw [hch,t2];unfold tag;omega
 have hnear:zdd r.cum ch.tag=c.first+i:=zoh zz0 zz0 zz0 zz0 htag;have q1:=ht.zec;have q2:=ht.fresh;rw [hnear] at q1 q2;have hnA:¬ A i:=fun hA=>by
  rcases (h.acc i hA).2 with h1 | h1
  . omega
  . rw [q2] at h1;cases h1
 obtain ⟨ar,ah⟩:=zxo h.zfa (n:=c.first+i) zz0 zz0;obtain ⟨u1,u2,u3,u4,u5,u6⟩:=zlr (n:=r.cum) ar;have hhas:∀ m:Int,(m<=(up (add r.zax (c.first+i)) r.cum).1\/has (up (add r.zax (c.first+i)) r.cum).2 m=true)↔(m<=r.cum\/has r.zax m=true\/m=c.first+i):=by
  intro m
  constructor
  . intro hm
    rcases xcj ar hm with h1 | h1
    . exact .inl h1
    . rw [ah,zy75,zy34] at h1
      exact .inr h1
  . intro hm
    refine yze ar ?_;rw [ah,zy75,zy34];exact hm
 have hsp:∀ s∈add r.zax (c.first+i),s.hi<c.first+H.length:=by
  have:=ypg (n:=c.first+i) (M:=c.first+H.length-1) h.zfa zz0 zz0 (fun s hs=>by have:=h.spanh s hs;omega) zz0;intro s hs;have:=this s hs;omega
 have hcov:∀ (j:Nat) z,H[j]?=some z->(c.first+j<=r.cum\/has r.zax (c.first+j)=true\/(c.first+(j:Int))=c.first+i)->(A j\/j=i)\/F z.id:=by
  intro j z hz hj;rcases hj with h1 | h1 | h1
  . exact (h.cum j z hz h1).imp .inl (fun z=>z)
  . exact .inl (.inl (h.span j h1))
  . exact .inl (.inr zz0)
 unfold Rcv.put;rw [hnear];refine ⟨by dsimp only;omega,?_,u3,u5,fun s hs=>hsp s (u4 s hs),fun j hj=>?_,fun j z hz hle=>hcov j z hz ((hhas _).1 (.inl hle)),fun j hj=>?_,fun p hp=>?_,?_,fun j z hz hj=>?_,h.logl,h.log,h.once,fun id hid=>⟨(h.dall id hid).1,fun j z hz he hd2=>.inl ((h.dall id hid).2 j z hz he hd2)⟩,h.streams,h.turn0,h.zbi,h.past,h.dturn,h.dord⟩
 . dsimp only
   rcases u6 with u6 | ⟨s,hs,u6⟩
   . omega
   . have:=hsp s hs;omega
 . rcases (hhas _).1 (.inr hj) with h1 | h1 | h1
   . exfalso
     obtain ⟨s,s1,s2,s3⟩:=zlc.1 hj;have:=u5 s s1;omega
   . exact .inl (h.span j h1)
   . exact .inr zz0
 . rcases hj with hj | rfl
   . obtain ⟨k1,k2⟩:=h.acc j hj
     exact ⟨k1,(hhas _).2 (k2.imp (fun z=>z) .inl)⟩
   . exact ⟨hil,(hhas _).2 (.inr (.inr rfl))⟩
 . rcases zy11.1 hp with hp | hp
   . obtain ⟨j,z,k1,k2,k3,k4,k5,k6⟩:=h.pieces p hp
     exact ⟨j,z,k1,k2,k3,k4,.inl k5,k6⟩
   . rw [zy9] at hp;subst hp
     refine ⟨i,y,hy,rfl,hch,by rw [<- hch];exact hd,.inr rfl,fun hin=>hnA ((h.dall y.id hin).2 i y hy rfl (by rw [<- hch];exact hd))⟩
 . refine zy104.2 ⟨h.apart,by simp,fun p hp q hq=>?_⟩
   rw [zy9] at hq;subst hq;obtain ⟨j,z,k1,k2,k3,k4,k5,k6⟩:=h.pieces p hp;intro e;have e:p.number=c.first+i:=e;have:j=i:=by omega
   subst this;exact hnA k5
 . rcases hj with hj | rfl
   . rcases h.kept j z hz hj with ⟨p,p1,p2⟩ | h1
     . exact .inl ⟨p,zy61 _ p1,p2⟩
     . exact .inr h1
   . exact .inl ⟨⟨c.first+j,ch⟩,by simp,rfl⟩
theorem yzx (h:GR c L H A F D r) (hs:H.length<=30500) {ch:Chunk} (hi:HI c L H) (hc0:0<=c.first/\c.first<65536) (hP:1<=c.part) (hok:zsj H ch):∃ A' D',GR c L H A' F D' (data r ch)/\∀ i,A i->A' i:=by
 unfold data;split
 . rename_i ht
   obtain ⟨i,y,h1,h2,h3⟩:=hok;have hp:=xeq h hs hi hc0 h1 h2 h3 ht;have hst:=ht.high;have hst0:=ht.low;split
   . obtain ⟨D',g⟩:=zux (D:=D) hi hP hs ch.stream.toNat ((put r ch).pieces.length+1) hp (by show ch.stream.toNat<r.zbi.length;omega)
     exact ⟨_,D',g,fun _=>.inl⟩
   . obtain ⟨D',g⟩:=xdl hp hi hP ch.stream ch.mid
     exact ⟨_,D',g,fun _=>.inl⟩
 . exact ⟨A,D,h,fun _ h=>h⟩
def xco (c:Config) (L:List Message) (H:List Prt) (F:Nat->Prop):Prop:=∀ x∈H,∀ y∈H,Cls x.chunk y.chunk->x.id<y.id->F x.id\/Whole c L H x.id
theorem ypu (h:GR c L H A F D r) {s m:Int} {o:Bool} (hg:∀ y∈H,y.chunk.stream=s->y.chunk.ordered=o->y.chunk.mid=m->y.id∈D\/F y.id):GR c L H A F D (zpj r s m o):=by
 refine ⟨h.lo,h.hi,h.zfa,h.zec,h.spanh,h.span,h.cum,h.acc,fun p hp=>h.pieces p (zy40.1 hp).1,h.apart.filter _,fun i y hy hA=>?_,h.logl,h.log,h.once,h.dall,h.streams,h.turn0,h.zbi,h.past,h.dturn,h.dord⟩;rcases h.kept i y hy hA with ⟨p,p1,p2⟩ | h1
 . by_cases hm:zfj s m o p=true
   . obtain ⟨i',y',z1,z2,z3,z4,z5,z6⟩:=h.pieces p p1
     have:i'=i:=by omega
     subst this;rw [hy] at z1;cases z1;obtain ⟨e1,e2,e3⟩:=zkc.1 hm;rw [z3] at e1 e2 e3;exact .inr (hg y (zy4 hy) e1 e2 e3)
   . exact .inl ⟨p,zy40.2 ⟨p1,by simp at hm;simp [hm]⟩,p2⟩
 . exact .inr h1
theorem xbo (h:GR c L H A F D r) (hi:HI c L H) (hP:1<=c.part) (hs:H.length<=30500) (hsh:xco c L H F) {n:Int} (hcov:∀ (i:Nat) y,H[i]?=some y->c.first+i<=n->A i\/F y.id) {k:Nat} {t:Int} (hk:r.zbi[k]?=some t)
 {i0:Nat} {y0:Prt} (q1:H[i0]?=some y0) (q2:c.first+i0<=n) (q3:F y0.id) (q4:y0.chunk.stream=k) (q5:y0.chunk.ordered=true) (q6:t<=y0.chunk.mid):∃ D',GR c L H A F D' (pass r k):=by
 obtain ⟨t0,t1⟩:=h.turnB hi hk;have htag:tag t=t:=by unfold tag;omega
 have hy0:=zy4 q1;unfold pass;rw [show r.zbi[k]?.getD 0=t by rw [hk];rfl];cases hj:join (r.pieces.filter (zfj k (tag t) true)) with
 | some b =>
  have hok:(dlv r k (tag t) true).2=true:=by rw [zyb r k (tag t) true hj]
  rw [zy1 hok];exact yyf h hi hP hs hk hok
 | none =>
  rw [ybe r k (tag t) true hj];rw [zy0 (show ¬ (r,false).2=true from Bool.noConfusion)];dsimp only;rw [htag] at hj ⊢;have hg:∀ y∈H,y.chunk.stream=k->y.chunk.ordered=true->y.chunk.mid=t->y.id∈D\/F y.id:=by
   intro y hy e1 e2 e3;have hc:Cls y.chunk y0.chunk:=⟨e1.trans q4.symm,e2.trans q5.symm⟩
   by_cases e4:y.chunk.mid=y0.chunk.mid
   . right;rw [(hi.same hy hy0 hc).2 e4];exact q3
   have hlt:y.id<y0.id:=(hi.key y hy y0 hy0 hc).2 zz0;rcases hsh y hy y0 hy0 hc hlt with hF | hW
   . exact .inr hF
   apply Classical.byContradiction;intro hno;have hno:=not_or.1 hno;obtain ⟨w,w1,w2,w3,w4⟩:=hi.msg y hy
   -- all parts of it are pieces
   have hpc:∀ (i:Nat) z,H[i]?=some z->z.id=y.id->∃ p∈r.pieces.filter (zfj k t true),p.number=c.first+i/\p.chunk=z.chunk:=by
    intro i z hz hzi;have hzm:=zy4 hz;have hzc:=hi.cls hzm hy hzi;have hle:i<=i0:=by
     apply Classical.byContradiction;intro hgt;have:=hi.order i0 i y0 z zz0 q1 hz (hc.symm.trans hzc.symm);omega
    have hA:A i:=by
     rcases hcov i z hz zz0 with h1 | h1
     . exact h1
     . rw [hzi] at h1;exact absurd h1 hno.2
    rcases h.kept i z hz hA with ⟨p,p1,p2⟩ | h1 | h1
    . obtain ⟨i',z',k1,k2,k3,k4,k5,k6⟩:=h.pieces p p1
      have:i'=i:=by omega
      subst this;rw [hz] at k1;cases k1;refine ⟨p,zy40.2 ⟨p1,zkc.2 ?_⟩,p2,k3⟩;rw [k3];exact ⟨hzc.1.trans e1,hzc.2.trans e2,((hi.same hzm hy hzc).1 hzi).trans e3⟩
    . rw [hzi] at h1;exact absurd h1 hno.1
    . rw [hzi] at h1;exact absurd h1 hno.2
   have hmp:∀ p∈r.pieces.filter (zfj k t true),∃ (i:Nat) (z:Prt),H[i]?=some z/\p.number=c.first+i/\p.chunk=z.chunk/\z.id=y.id/\znr c.part w p.chunk:=by
    intro p hp;obtain ⟨g1,g2⟩:=zy40.1 hp;obtain ⟨i,z,k1,k2,k3,k4,k5,k6⟩:=h.pieces p g1;obtain ⟨f1,f2,f3⟩:=zkc.1 g2;rw [k3] at f1 f2 f3;have hzm:=zy4 k1;have hzc:Cls z.chunk y.chunk:=⟨f1.trans e1.symm,f2.trans e2.symm⟩
    have hzi:=(hi.same hzm hy hzc).2 (f3.trans e3.symm);obtain ⟨v,v1,-,-,v4⟩:=hi.msg z hzm;rw [hzi,w1] at v1;cases v1;exact ⟨i,z,k1,k2,k3,hzi,by rw [k3];exact v4 k4⟩
   have hne:w.data≠[]:=by
    intro e;obtain ⟨i,hii⟩:=zy46 hy;obtain ⟨p,p1,p2,p3⟩:=hpc i y hii rfl;obtain ⟨-,-,-,-,-,-,hpo⟩:=hmp p p1;have g1:=hpo.inn;have g2:=hpo.part0;have g3:0<=p.chunk.part*c.part:=zy129 g2 zz0;rw [e] at g1;simp at g1;omega
   obtain ⟨b,hb⟩:=zwl hP (fun p hp=>by obtain ⟨-,-,-,-,-,-,hpo⟩:=hmp p hp;exact hpo)
    ((
     h.apart.filter (zfj k t true)).imp_of_mem fun {p q} hp hq hpq e=>by
     obtain ⟨i,z,k1,k2,k3,k4,-⟩:=hmp p hp;obtain ⟨j,z',l1,l2,l3,l4,-⟩:=hmp q hq;have:=hi.at k1 l1 (k4.trans l4.symm) (by rw [<- k3,<- l3];exact e);omega) hne (fun j hjp=>by
     obtain ⟨z,z1,z2,z3,z4⟩:=hW w w1 j hjp;obtain ⟨i,hii⟩:=zy46 z1;obtain ⟨p,p1,p2,p3⟩:=hpc i z hii z2;exact ⟨p,p1,by rw [p3];exact z3⟩)
   rw [hj] at hb;cases hb
  have hd:=ypu h (s:=k) (m:=t) (o:=true) hg;refine ⟨D,hd.lo,hd.hi,hd.zfa,hd.zec,hd.spanh,hd.span,hd.cum,hd.acc,hd.pieces,hd.apart,hd.kept,hd.logl,hd.log,hd.once,hd.dall,by show ((r.zbi.set _ _).length:Int)=_;rw [zy26];exact h.streams,fun u hu=>?_,fun j u hu=>?_,fun j u hu y hy e1 e2 e3=>?_,fun j u hu y hy hy2 e1 e2=>?_,hd.dord⟩
  . obtain ⟨j,hj2⟩:=zy46 hu
    rcases zin hk hj2 with ⟨-,rfl⟩ | ⟨-,hu⟩
    . omega
    . exact h.turn0 u (zy4 hu)
  . rcases zin hk hu with ⟨rfl,rfl⟩ | ⟨-,hu⟩
    . exact .inr ⟨y0,hy0,q4,q5,by omega⟩
    . exact h.zbi j u hu
  . rcases zin hk hu with ⟨rfl,rfl⟩ | ⟨-,hu⟩
    . by_cases e:y.chunk.mid=t
      . exact hg y hy e1 e2 e
      . exact h.past j t hk y hy e1 e2 zz0
    . exact h.past j u hu y hy e1 e2 e3
  . rcases zin hk hu with ⟨rfl,rfl⟩ | ⟨-,hu⟩
    . have:=h.dturn j t hk y hy hy2 e1 e2;omega
    . exact h.dturn j u hu y hy hy2 e1 e2
theorem ydp (hi:HI c L H) (hP:1<=c.part) (hs:H.length<=30500) (hsh:xco c L H F) {n:Int} (hcov:∀ (i:Nat) y,H[i]?=some y->c.first+i<=n->A i\/F y.id) {k:Nat}
 {i0:Nat} {y0:Prt} (q1:H[i0]?=some y0) (q2:c.first+i0<=n) (q3:F y0.id) (q4:y0.chunk.stream=k) (q5:y0.chunk.ordered=true):∀ (j:Nat) {D:List Nat} {r:Receiver} {t:Int},GR c L H A F D r->r.zbi[k]?=some t->t+j<=y0.chunk.mid+1->∃ D',GR c L H A F D' (zlj j r k)
 | 0,D,r,t,h,_,_=>⟨D,h⟩
 | j+1,D,r,t,h,hk,hle=>by
  rw [zlj];obtain ⟨D',h'⟩:=xbo h hi hP hs hsh hcov hk q1 q2 q3 q4 q5 (by push_cast at hle;omega);have ht:=(zmb r k).1;exact ydp hi hP hs hsh hcov q1 q2 q3 q4 q5 j (t:=t+1) h' (by rw [ht,hk,zy20 (zdz hk)];rfl) (by push_cast at hle;omega)
theorem zwu (k:Nat):∀ (j:Nat) (r:Receiver),(zlj j r k).zbi.length=r.zbi.length
 | 0,_=>rfl
 | j+1,r=>by rw [zlj,zwu k j,(zmb r k).1,zy26]
theorem xby (h:GR c L H A F D r) (hi:HI c L H) (hP:1<=c.part) (hs:H.length<=30500) (hsh:xco c L H F) {n:Int} (hcov:∀ (i:Nat) y,H[i]?=some y->c.first+i<=n->A i\/F y.id) {sk:zfo}
 (hsk:∃ (i:Nat) (y:Prt),H[i]?=some y/\c.first+i<=n/\F y.id/\sk.stream=y.chunk.stream/\sk.ordered=y.chunk.ordered/\sk.mid=y.chunk.mid):∃ D',GR c L H A F D' (zku r sk):=by
 obtain ⟨i0,y0,q1,q2,q3,q4,q5,q6⟩:=hsk;have hy0:=zy4 q1;have hmid:=hi.mid y0 hy0;unfold zku;by_cases c1:sk.stream<0\/(r.zbi.length:Int)<=sk.stream
 . rw [zy1 c1];exact ⟨D,h⟩
 rw [zy0 c1];by_cases c2:sk.ordered=false
 . rw [zy1 c2]
   refine ⟨D,ypu h fun y hy e1 e2 e3=>.inr ?_⟩;rw [(hi.same hy hy0 ⟨e1.trans q4,e2.trans (c2.symm.trans q5)⟩).2 (e3.trans q6)];exact q3
 . rw [zy0 c2]
   have c3:sk.ordered=true:=by simpa using c2
   have hkl:sk.stream.toNat<r.zbi.length:=by omega
   obtain ⟨t,ht⟩:∃ t,r.zbi[sk.stream.toNat]?=some t:=⟨_,zy2 hkl⟩
   obtain ⟨t0,t1⟩:=h.turnB hi ht;have hnr:zdd t sk.mid=sk.mid:=zoh zz0 zz0 zz0 zz0 rfl;rw [show r.zbi[sk.stream.toNat]?.getD 0=t by rw [ht];rfl,hnr];unfold yfd;rw [show r.zbi[sk.stream.toNat]?.getD 0=t by rw [ht];rfl];obtain ⟨D',h'⟩:∃ D',GR c L H A F D' (zlj (sk.mid+1-t).toNat r sk.stream.toNat):=by
    by_cases c4:t<=sk.mid+1
    . exact ydp hi hP hs hsh hcov q1 q2 q3 zz0 (by rw [<- q5];exact c3) _ h ht zz0
    . rw [show (sk.mid+1-t).toNat=0 by omega];exact ⟨D,h⟩
   exact zux hi hP hs _ _ h' (by rw [zwu];exact hkl)
theorem ylm (hi:HI c L H) (hP:1<=c.part) (hs:H.length<=30500) (hsh:xco c L H F) {n:Int} (hcov:∀ (i:Nat) y,H[i]?=some y->c.first+i<=n->A i\/F y.id):∀ (l:List zfo) {D:List Nat} {r:Receiver},GR c L H A F D r ->
 (∀ sk∈l,∃ (i:Nat) (y:Prt),H[i]?=some y/\c.first+i<=n/\F y.id/\sk.stream=y.chunk.stream/\sk.ordered=y.chunk.ordered/\sk.mid=y.chunk.mid)->∃ D',GR c L H A F D' (l.foldl zku r)
 | [],D,_,h,_=>⟨D,h⟩
 | sk::l,D,r,h,hl=>by
  obtain ⟨D',h'⟩:=xby h hi hP hs hsh hcov (hl sk zz4);exact ylm hi hP hs hsh hcov l h' fun x hx=>hl x zz29
theorem ymq (h:GR c L H A F D r) (hi:HI c L H) (hP:1<=c.part) (hs:H.length<=30500) (hc0:0<=c.first/\c.first<65536) (hsh:xco c L H F) {ch:Chunk} (hok:ymc c H A F ch):∃ D',GR c L H A F D' (forward r ch):=by
 obtain ⟨n,n1,n2,n3,n4,n5⟩:=hok;have hlo:=h.lo;have hhi:=h.hi;have hnear:zdd r.cum ch.tag=n:=zoh zz0 zz0 zz0 zz0 n3.symm;unfold forward;by_cases c1:¬ ch.kind=3\/zdd r.cum ch.tag<=r.cum
 . rw [zy1 c1];exact ⟨D,h⟩
 rw [zy0 c1,hnear];obtain ⟨u1,u2,u3,u4,u5,u6⟩:=zlr (n:=n) h.zfa;have hg:GR c L H A F D {r with cum:=(up r.zax n).1,zax:=(up r.zax n).2}:=by
  refine ⟨by dsimp only;omega,?_,u3,u5,fun s hs=>h.spanh s (u4 s hs),fun i hi2=>?_,fun i y hy hle=>?_,fun i hA=>⟨(h.acc i hA).1,yze h.zfa ?_⟩,h.pieces,h.apart,h.kept,h.logl,h.log,h.once,h.dall,h.streams,h.turn0,h.zbi,h.past,h.dturn,h.dord⟩
  . dsimp only
    rcases u6 with u6 | ⟨s,hs,u6⟩
    . omega
    . have:=h.spanh s hs;omega
  . obtain ⟨s,s1,s2,s3⟩:=zlc.1 hi2
    exact h.span i (zlc.2 ⟨s,u4 s s1,s2,s3⟩)
  . rcases xcj h.zfa (.inl hle) with h1 | h1
    . exact n4 i y hy h1
    . exact .inl (h.span i h1)
  . have hne:=fun h2=>c1 (.inr h2)
    rcases (h.acc i hA).2 with h1 | h1
    . rw [hnear] at hne;left;omega
    . exact .inr h1
 exact ylm hi hP hs hsh n4 ch.zbs hg n5
theorem yxt (h:GR c L H A F D r):zix c H A F (Chk.clean (zmp r)):=by
 have e1:(Chk.clean (zmp r)).tag=tag r.cum:=rfl;have e2:(Chk.clean (zmp r)).zax=(r.zax.take 6).map (shift r.cum):=rfl;refine ⟨r.cum,h.lo,h.hi,by rw [e1];unfold tag;omega,h.cum,fun t ht=>?_,fun i hlt hh=>?_⟩
 . rw [e2] at ht
   obtain ⟨s,hs,rfl⟩:=zy18.1 ht;have:=h.spanh s (zy59 hs);show r.cum+(s.hi-r.cum)<_;omega
 . rw [e2] at hh
   obtain ⟨t,t1,t2,t3⟩:=zlc.1 hh;obtain ⟨s,hs,rfl⟩:=zy18.1 t1;have t2:s.lo-r.cum<=c.first+i-r.cum:=t2;have t3:c.first+i-r.cum<=s.hi-r.cum:=t3;exact h.span i (zlc.2 ⟨s,zy59 hs,by omega,by omega⟩)
theorem xef {c:Config} (hc:1<=c.streams) (L:List Message) (F:Nat->Prop):GR c L [] (fun _=>False) F [] (yan c):=by
 refine ⟨by show c.first-1<=c.first-1;omega,by show c.first-1<c.first+((([]:List Prt).length:Nat):Int);simp;omega,trivial,by simp [yan],by simp [yan],fun i hi=>?_,by simp,fun i h=>h.elim,by simp [yan],by simp [yan],by simp,rfl,by simp,by simp,by simp,?_,fun t ht=>?_,fun k t hk=>?_,by simp,by simp,by simp⟩
 . simp [yan,has] at hi
 . show ((List.replicate _ _).length:Int)=_;rw [zy99];omega
 . have:t=0:=zy57 ht
   omega
 . exact .inl (zy57 (zy4 hk))
end
end Gh
namespace Gh
open Ser Snd Ln
def zxn (c:Config) (H:List Prt) (A F:Nat->Prop) (p:zay):Prop:=∀ ch∈(Pck.zfu p.bytes).1,if p.back=true then zix c H A F ch else zmy c H A F ch
structure GL (N M:Nat) (c:Config) (L:List Message) (H:List Prt) (A:Nat->Prop) (D:List Nat) (l:zer):Prop where
 li:LI N M l
 ki:KI L l.sender
 gs:GS c L H A l.sender
 gr:GR c L H A (gF l.sender) D l.receiver
 way:∀ p∈l.way,zxn c H A (gF l.sender) p
section
variable {N M:Nat} {c:Config} {L:List Message} {H:List Prt} {A F:Nat->Prop} {D:List Nat} {l:zer}
theorem zxn.more {E:List Prt} {B G:Nat->Prop} {p:zay} (h:zxn c H A F p) (hA:∀ i,A i->B i) (hF:∀ i,F i->G i):zxn c (H++E) B G p:=fun ch hc=>by
 have:=h ch hc;split at this
 . rename_i e;rw [zy1 e];exact zix.more this hA hF
 . rename_i e;rw [zy0 e];exact zmy.more this hA hF
theorem zxn.more0 {B G:Nat->Prop} {p:zay} (h:zxn c H A F p) (hA:∀ i,A i->B i) (hF:∀ i,F i->G i):zxn c H B G p:=by
 have:=h.more (E:=[]) hA hF
 rwa [zy7] at this
theorem zix.more0 {B G:Nat->Prop} {ch:Chunk} (h:zix c H A F ch) (hA:∀ i,A i->B i) (hF:∀ i,F i->G i):zix c H B G ch:=by
 have:=h.more (E:=[]) hA hF
 rwa [zy7] at this
theorem zmy.more0 {B G:Nat->Prop} {ch:Chunk} (h:zmy c H A F ch) (hA:∀ i,A i->B i) (hF:∀ i,F i->G i):zmy c H B G ch:=by
 have:=h.more (E:=[]) hA hF
 rwa [zy7] at this
theorem GS.shut {s:zab} (h:GS c L H A s) (hk:KI L s):xco c L H (gF s):=by
 intro x hx y hy hc hlt;by_cases hg:gF s x.id
 . exact .inl hg
 right
 obtain ⟨w,w1,w2,w3,-⟩:=h.hi.msg x hx;rcases h.whole x.id (zdz w1) hg with ⟨m,m1,m2⟩ | h1
 . exfalso
   have hm:=hk.queue m m1;rw [show m.id.toNat=x.id by omega,w1] at hm;cases hm;rcases zy139 m.mid 0 with hn | hn
   . have:=(h.fresh m m1 hn).2 x hx ⟨w2,w3⟩
     omega
   . have:=(h.begun m m1 hn).top y hy ⟨hc.1.symm.trans w2,hc.2.symm.trans w3⟩
     omega
 . exact h1
theorem ytc {s:zab} (h:KI L s):KI L (Snd.settle s):=by
 refine ⟨by show (List.mapIdx _ _).length=_;rw [zy123];exact h.len,h.queue,h.out,fun k hk=>h.gone k ?_⟩;have hk:(s.fates.mapIdx fun id f=>settled s id f)[k]?=some 3:=hk;rw [zy76] at hk;cases hz:s.fates[k]? with
 | none=>rw [hz] at hk;cases hk
 | some f =>
  rw [hz] at hk;have hk:settled s k f=3:=by simpa using hk
  unfold settled at hk;split at hk
  . cases hk
  . rw [hk]
theorem xao {s:zab} (h:KI L s) (ch:Chunk):KI L (yfh s ch):=by
 unfold yfh;split
 . exact h
 split
 . exact h
 rename_i c1 c2;rw [zny];have e1:(Sco.zha s.out s.cum ch s.paths.length).1=(Sco.left ch (zdd s.cum ch.tag) s.out).map (Sco.age (Sco.zgv ch (zdd s.cum ch.tag) s.out)):=by rw [Sco.zha,zy0 c2]
 have hT:KI L (zhd s ch (Sco.zha s.out s.cum ch s.paths.length)):=by
  refine h.side rfl (fun m hm=>⟨m,hm,rfl,rfl⟩) fun x hx=>?_
  have hx:x∈(Sco.zha s.out s.cum ch s.paths.length).1:=hx;rw [e1] at hx;obtain ⟨y,hy,rfl⟩:=zy18.1 hx;obtain ⟨z,hz,rfl⟩:=zy18.1 hy;refine ⟨z,(zy40.1 hz).1,?_⟩;have a1:∀ (k:Int) (y:zbp),(Sco.age k y).id=y.id/\(Sco.age k y).life=y.life/\(Sco.age k y).tries=y.tries:=fun k y=>by unfold Sco.age;(repeat' split)<;>exact ⟨rfl,rfl,rfl⟩
  have a2:(Sco.zbi ch (zdd s.cum ch.tag) z).id=z.id/\(Sco.zbi ch (zdd s.cum ch.tag) z).life=z.life/\(Sco.zbi ch (zdd s.cum ch.tag) z).tries=z.tries:=by unfold Sco.zbi;split<;>exact ⟨rfl,rfl,rfl⟩
  obtain ⟨b1,b2,b3⟩:=a1 (Sco.zgv ch (zdd s.cum ch.tag) s.out) (Sco.zbi ch (zdd s.cum ch.tag) z);exact ⟨(b1.trans a2.1).symm,(b2.trans a2.2.1).symm,(b3.trans a2.2.2).symm⟩
 generalize zhd s ch (Sco.zha s.out s.cum ch s.paths.length)=t at hT;have hU:∀ p l,KI L (zhs p t l):=fun p l=>by
  unfold zhs;split
  . exact hT
  . split
    . exact hT.side rfl (fun m hm=>⟨m,hm,rfl,rfl⟩) fun x hx=>⟨x,hx,rfl,rfl,rfl⟩
    . exact hT
 refine ytc ?_;unfold zfy;split
 . exact (hU _ _).side rfl (fun m hm=>⟨m,hm,rfl,rfl⟩) fun x hx=>⟨x,hx,rfl,rfl,rfl⟩
 . exact hU _ _
theorem yvp {back:Bool} {x:zer×Bool} {ch:Chunk} (h:GL N M c L H A D x.1) (hN:N<=500) (hM:M+Rcv.wt ch<=2000000) (hok:if back=true then zix c H A (gF x.1.sender) ch else zmy c H A (gF x.1.sender) ch) :
 ∃ A' D',GL N (M+Rcv.wt ch) c L H A' D' (zhr back x ch).1/\(∀ i,A i->A' i)/\∀ k,gF x.1.sender k->gF (zhr back x ch).1.sender k:=by
 have hli:=zyo (back:=back) (c:=ch) h.li hM;have hw:=zcj h.li.snd.cfg;rw [h.gs.cfg] at hw;have hcap:=h.gs.few h.li.snd;unfold zhr at hli ⊢;by_cases cb:back=true
 . rw [zy1 cb] at hok hli ⊢
   obtain ⟨g1,g2⟩:=xan h.gs h.li.snd hN hok;exact ⟨A,D,⟨hli,xao h.ki ch,g1,h.gr.goneMore g2,fun p hp=>(h.way p hp).more0 (fun _ h=>h) g2⟩,fun _ h=>h,g2⟩
 rw [zy0 cb] at hok hli ⊢;by_cases c1:ch.kind=1
 . rw [zy1 c1] at hli ⊢
   have hd:zsj H ch:=by
    rcases hok with hd | ⟨hd,-⟩
    . exact hd
    . rw [c1] at hd;cases hd
   obtain ⟨A',D',g1,g2⟩:=yzx h.gr zz0 h.gs.hi zz0 zz0 hd;exact ⟨A',D',⟨hli,h.ki,h.gs.more g2,g1,fun p hp=>(h.way p hp).more0 g2 (fun _ h=>h)⟩,g2,fun _ h=>h⟩
 rw [zy0 c1] at hli ⊢;by_cases c3:ch.kind=3
 . rw [zy1 c3] at hli ⊢
   have hd:ymc c H A (gF x.1.sender) ch:=by
    rcases hok with ⟨i,y,h1,h2,-⟩ | ⟨-,hd⟩
    . exact absurd (h2 ▸ (h.gs.hi.tag i y h1).1) c1
    . exact hd
   obtain ⟨D',g1⟩:=ymq h.gr h.gs.hi zz0 zz0 zz0 (h.gs.shut h.ki) hd;exact ⟨A,D',⟨hli,h.ki,h.gs,g1,h.way⟩,fun _ h=>h,fun _ h=>h⟩
 rw [zy0 c3] at hli ⊢;exact ⟨A,D,⟨hli,h.ki,h.gs,h.gr,h.way⟩,fun _ h=>h,fun _ h=>h⟩
theorem yjm {back:Bool} (hN:N<=500):∀ (cs:List Chunk) {M:Nat} {A:Nat->Prop} {D:List Nat} {x:zer×Bool},GL N M c L H A D x.1->M+Rcv.wts cs<=2000000->(∀ ch∈cs,if back=true then zix c H A (gF x.1.sender) ch else zmy c H A (gF x.1.sender) ch) ->
 ∃ A' D',GL N (M+Rcv.wts cs) c L H A' D' (cs.foldl (zhr back) x).1
 | [],M,A,D,x,h,_,_=>⟨A,D,h⟩
 | ch::cs,M,A,D,x,h,hM,hok=>by
  rw [Rcv.zmm] at hM ⊢;obtain ⟨A',D',g1,g2,g3⟩:=yvp (back:=back) h hN zz0 (hok ch zz4);have:=yjm (back:=back) hN cs g1 zz0 fun z hz=>by
   have:=hok z (by simp [hz]);split at this
   . rename_i e;rw [zy1 e];exact zix.more0 this g2 g3
   . rename_i e;rw [zy0 e];exact zmy.more0 this g2 g3
  rw [<- zy97];exact this
theorem GL.more (h:GL N M c L H A D l) {M':Nat} (h1:M<=M') (h2:M'<=2000000):GL N M' c L H A D l:=⟨h.li.more h1 h2,h.ki,h.gs,h.gr,h.way⟩
theorem GL.put (h:GL N M c L H A D l) {ps:List zay} (hp:∀ p∈ps,p.bytes.length<=120) (hw:∀ p∈ps,zxn c H A (gF l.sender) p):GL N M c L H A D {l with way:=zvf l.way ps} :=
 ⟨ydt h.li hp,h.ki,h.gs,h.gr,fun p hq=>by rcases zzn ps _ p hq with hq | hq;exact h.way p hq;exact hw p hq⟩
theorem xcf (h:GL N M c L H A D l) (path:Int):GL N M c L H A D (told path l):=by
 unfold told;split
 . rename_i c1
   refine h.put (fun p hp=>?_) fun p hp ch hc=>?_
   . rw [zy9] at hp;subst hp
     have:=zqc [Rcv.zmp l.receiver] 120 zz5;dsimp only;omega
   . rw [zy9] at hp;subst hp
     rw [zy1 rfl];obtain ⟨d,hd,rfl⟩:=yds c1 ch hc;rw [zy9] at hd;subst hd;exact yxt h.gr
 . exact h
theorem yzw (h:GL N M c L H A D l) (hN:N<=500) {p:zay} (hp:p.bytes.length<=120) (hw:zxn c H A (gF l.sender) p) (hM:M+120<=2000000):∃ A' D',GL N (M+120) c L H A' D' (zgd l p):=by
 have hwt:=(zuc p.bytes).1;obtain ⟨A',D',g⟩:=yjm (back:=p.back) hN (Pck.zfu p.bytes).1 (x:=(l,false)) h zz0 hw;have g2:GL N (M+120) c L H A' D' (zjy l p).1:=g.more zz0 hM;unfold zgd;split
 . exact ⟨A,D,h.more zz0 hM⟩
 split
 . exact ⟨A',D',xcf g2 _⟩
 . exact ⟨A',D',g2⟩
theorem zta (h:GL N M c L H A D l) (hN:N<=500):∃ E,GL N M c L (H++E) A D (emit l):=by
 obtain ⟨E,g1,g2,g3⟩:=xbp h.gs h.li.snd hN h.ki;have hli:=ztb h.li;refine ⟨E,hli,xbq h.ki h.li.snd,g1,(h.gr.goneMore g2).ext g1.hi,fun p hp=>?_⟩;rcases zzn _ _ p hp with hp | hp
 . exact (h.way p hp).more (fun _ h=>h) g2
 . obtain ⟨b1,b2⟩:=g3 p hp
   intro ch hc;rw [b1,zy0 (by decide)];exact b2 ch hc
theorem GL.nmore (h:GL N M c L H A D l) {N':Nat} (h1:N<=N') (h2:N'<=2 ^ 20):GL N' M c L H A D l:=⟨⟨h.li.snd.mono h1 h2,h.li.rcv,h.li.small,h.li.way,h.li.bytes⟩,h.ki,h.gs,h.gr,h.way⟩
def yhx (x:Step) (a:Answer):List Message:=if x.kind=1/\a.err=0 then [x.message] else []
theorem xdn (h:GL N M c L H A D l) (x:Step) (hN:N+1<=500) (hM:M+120<=2000000):∃ E A' D',GL (N+1) (M+120) c (L++yhx x (doS l x).2) (H++E) A' D' (doS l x).1:=by
 have h0:GL (N+1) (M+120) c L H A D l:=(h.nmore zz0 zz0).more zz0 hM;have same:∀ a:Answer,yhx x a=[]->∃ E A' D',GL (N+1) (M+120) c (L++yhx x a) (H++E) A' D' l:=fun a e=>⟨[],A,D,by rw [e,zy7,zy7];exact h0⟩
 unfold doS;by_cases c1:x.kind=1
 . rw [zy1 c1]
   by_cases c2:zfq l.sender x.message=0
   . rw [zy1 c2]
     obtain ⟨g1,g2⟩:=xbw h.gs h.li.snd h.ki x.message;have hs:GL (N+1) (M+120) c (L++[x.message]) H A D {l with sender:=zjm l.sender x.message} :=
      ⟨⟨zzt h.li.snd c2 zz0,h0.li.rcv,hM,h.li.way,h.li.bytes⟩,xbx h.ki h.li.snd x.message,g1,(h.gr.lMore x.message).goneMore g2,fun p hp=>(h.way p hp).more0 (fun _ h=>h) g2⟩
     obtain ⟨E,g⟩:=zta hs zz0;refine ⟨E,A,D,?_⟩;rw [show yhx x ⟨0,(l.sender.fates.length:Int)⟩=[x.message] from zy1 ⟨c1,rfl⟩];exact g
   . rw [zy0 c2]
     exact same _ (zy0 fun h=>c2 h.2)
 rw [zy0 c1];have nt:∀ a:Answer,yhx x a=[]:=fun a=>zy0 fun h=>c1 h.1
 have fin:∀ {A':Nat->Prop} {D':List Nat} {y:zer} {a:Answer},(∃ E,GL (N+1) (M+120) c L (H++E) A' D' y)->∃ E A' D',GL (N+1) (M+120) c (L++yhx x a) (H++E) A' D' y:=by
  rintro A' D' y a ⟨E,g⟩;exact ⟨E,A',D',by rw [nt a,zy7];exact g⟩
 by_cases c2:x.kind=2\/x.kind=3\/x.kind=4
 . rw [zy1 c2]
   by_cases c3:x.n<0
   . rw [zy1 c3];exact same _ (nt _)
   rw [zy0 c3];cases hp:l.way[x.n.toNat]? with
   | none=>exact same _ (nt _)
   | some p =>
    dsimp only;have hpm:=zy4 hp;have hb:=h.li.bytes p hpm;have hw:=h.way p hpm;by_cases c4:x.kind=4
    . rw [zy1 c4]
      exact fin (zta (h0.put (fun q hq=>by rw [zy9] at hq;subst hq;exact hb) fun q hq=>by rw [zy9] at hq;subst hq;exact hw) zz0)
    rw [zy0 c4];have he:GL (N+1) M c L H A D {l with way:=l.way.eraseIdx x.n.toNat}:=by
     have h1:=h.nmore (N':=N+1) zz0 zz0;exact ⟨⟨h1.li.snd,h1.li.rcv,h1.li.small,by show (l.way.eraseIdx _).length<=40;have:=h.li.way;rw [zy92];split<;>omega,fun q hq=>h.li.bytes q (zy65 hq)⟩,h1.ki,h1.gs,h1.gr,fun q hq=>h.way q (zy65 hq)⟩
    by_cases c5:x.kind=2
    . rw [zy1 c5]
      obtain ⟨A',D',g⟩:=yzw he zz0 hb hw hM;exact fin (zta g zz0)
    . rw [zy0 c5]
      exact fin (zta (he.more zz0 hM) zz0)
 rw [zy0 c2];by_cases c5:x.kind=5
 . rw [zy1 c5]
   obtain ⟨g1,g2⟩:=xcd h.gs;have g3:∀ k,gF l.sender k↔gF (tick l.sender) k:=fun k=>by unfold gF;rw [g2]
   have ht:GL (N+1) (M+120) c L H A D {l with sender:=tick l.sender} :=
    ⟨⟨yah h0.li.snd,h0.li.rcv,hM,h.li.way,h.li.bytes⟩,xce h.ki,g1,h.gr.goneMore fun k=>(g3 k).1,fun p hp=>(h.way p hp).more0 (fun _ h=>h) fun k=>(g3 k).1⟩
   exact fin (zta ht zz0)
 . rw [zy0 c5];exact same _ (nt _)
def ziv:List Step->List Answer->List Message
 | x::l,a::b=>yhx x a++ziv l b
 | _,_=>[]
theorem ylc:∀ (a:List Step) {N M:Nat} {L:List Message} {H:List Prt} {A:Nat->Prop} {D:List Nat} {l:zer},GL N M c L H A D l->N+a.length<=500->M+120*a.length<=2000000->∃ H' A' D',GL (N+a.length) (M+120*a.length) c (L++ziv a (zqf l a).2) H' A' D' (zqf l a).1
 | [],N,M,L,H,A,D,l,h,_,_=>⟨H,A,D,by show GL N M c (L++[]) H A D l;rw [zy7];exact h⟩
 | x::a,N,M,L,H,A,D,l,h,h1,h2=>by
  simp only [zy6] at h1 h2 ⊢;obtain ⟨E,A',D',g⟩:=xdn h x zz0 zz0;obtain ⟨H2,A2,D2,g2⟩:=ylc a g zz0 zz0;refine ⟨H2,A2,D2,?_⟩;rw [show N+(a.length+1)=N+1+a.length by omega,show M+120*(a.length+1)=M+120+120*a.length by omega];rw [zy28] at g2;exact g2
theorem xbb {c:Config} (hw:zpe c=0):GL 0 0 c [] [] (fun _=>False) [] (zoi c) :=
 ⟨zze hw,⟨rfl,by simp [zoi,zrb],by simp [zoi,zrb],by simp [zoi,zrb]⟩,xeg hw _,xef (by have:=zcj hw;omega) _ _,by simp [zoi]⟩
structure xda (L:List Message) (lg:List zbw) (D:List Nat):Prop where
 len:D.length=lg.length
 log:∀ (k:Nat) id a,D[k]?=some id->lg[k]?=some a->∃ m,L[id]?=some m/\a.stream=m.stream/\a.ordered=m.ordered/\a.data=m.data
 once:D.Nodup
 zbi:∀ (i j:Nat) a b x y,i<j->D[i]?=some a->D[j]?=some b->lg[i]?=some x->lg[j]?=some y->x.stream=y.stream->x.ordered=true->y.ordered=true->a<b
theorem GL.books (h:GL N M c L H A D l):xda L l.receiver.log D:=by
 refine ⟨h.gr.logl,fun k id a h1 h2=>?_,h.gr.once,fun i j a b x y hij h1 h2 h3 h4 h5 h6 h7=>?_⟩
 . obtain ⟨m,m1,m2,m3,m4,-⟩:=h.gr.log k id a h1 h2
   exact ⟨m,m1,m2,m3,m4⟩
 . obtain ⟨m,m1,m2,m3,m4,u,u1,u2⟩:=h.gr.log i a x h1 h3
   obtain ⟨n,n1,n2,n3,n4,v,v1,v2⟩:=h.gr.log j b y h2 h4;obtain ⟨hi,e1⟩:=zy10.1 h1;obtain ⟨hj,e2⟩:=zy10.1 h2;have:=List.pairwise_iff_getElem.1 h.gr.dord i j hi hj hij;rw [e1,e2] at this;obtain ⟨w,w1,w2,w3,-⟩:=h.gs.hi.msg u u1;rw [u2,m1] at w1;cases w1;obtain ⟨z,z1,z2,z3,-⟩:=h.gs.hi.msg v v1;rw [v2,n1] at z1;cases z1;exact this u u1 v v1 u2 v2 ⟨by rw [w2,z2,<- m2,<- n2];exact h5,by rw [w3,z3,<- m3,<- n3,h6,h7]⟩ (by rw [w3,<- m3];exact h6)
end
end Gh
namespace Gh
open Ser Snd Ln
theorem ztt {α:Type} [DecidableEq α]:∀ {X Y:List α},X.Nodup->(∀ x∈X,x∈Y)->X.length<=Y.length
 | [],_,_,_=>zy96 _
 | x::X,Y,hn,h=>by
  obtain ⟨h1,h2⟩:=zy67.1 hn;have ih:=ztt (Y:=Y.erase x) h2 fun y hy=>(List.mem_erase_of_ne (fun e=>h1 (by rw [<- e];exact hy))).2 (h y zz57)
  have hx:x∈Y:=h x zz4;rw [List.length_erase_of_mem hx] at ih;have:=List.length_pos_of_mem hx;rw [zy6];omega
theorem yia {α β:Type} {p:β->Bool}:∀ {l:List α} {m:List β},l.length=m.length->((l.zip m).filter fun z=>p z.2).length=(m.filter p).length
 | [],[],_=>rfl
 | [],_::_,h=>by simp at h
 | _::_,[],h=>by simp at h
 | x::l,y::m,h=>by
  have ih:=yia (p:=p) (l:=l) (m:=m) zz84;rw [zy145,zy47,zy47];dsimp only;split<;>simp [ih]
theorem yib {α β:Type} {p:α×β->Bool}:∀ {l:List α} {m:List β},(((l.zip m).filter p).map Prod.fst).Sublist l
 | [],m=>by simp
 | x::l,[]=>by simp
 | x::l,y::m=>by
  rw [zy145,zy47];split
  . exact (yib (l:=l) (m:=m)).cons_cons x
  . exact (yib (l:=l) (m:=m)).cons x
theorem xfa {α β:Type} {p:α×β->Bool} {l:List α} {m:List β} {x:α} (h:x∈((l.zip m).filter p).map Prod.fst):∃ (k:Nat) (y:β),l[k]?=some x/\m[k]?=some y/\p (x,y)=true:=by
 obtain ⟨z,hz,rfl⟩:=zy18.1 h;obtain ⟨h1,h2⟩:=zy40.1 hz;obtain ⟨k,hk⟩:=zy46 h1;rw [zy138] at hk;exact ⟨k,z.2,hk.1,hk.2,h2⟩
theorem xfb {α β:Type} {p:α×β->Bool} {l:List α} {m:List β} {k:Nat} {x:α} {y:β} (h1:l[k]?=some x) (h2:m[k]?=some y) (h3:p (x,y)=true):x∈((l.zip m).filter p).map Prod.fst:=by
 refine zy18.2 ⟨(x,y),zy40.2 ⟨zy4 (i:=k) ?_,h3⟩,rfl⟩;rw [zy138];exact ⟨h1,h2⟩
section
variable {T:List Message} {lg:List zbw} {D:List Nat} {A A':List zbw} {a:zbw} {U:List Nat} {B:List Bool} {E:List (Int×Int)}
end
theorem zxg (x:Step) (a:Answer):∀ (A:List Step) (az:List Answer),az[A.length]?=some a->ziv (A++[x]) az=ziv A az++yhx x a
 | [],[],h=>by simp at h
 | [],b::az,h=>by
  simp only [zy13,List.getElem?_cons_zero,Option.some.injEq] at h;subst h;show yhx x b++ziv [] az=[]++yhx x b;cases az<;>simp [ziv]
 | y::A,[],h=>by simp at h
 | y::A,b::az,h=>by
  rw [zy39,ziv,ziv,zxg x a A az (by simpa using h),zy28]
theorem zuv:∀ (l:List Step) (az:List Answer),(ziv l az).length<=l.length
 | [],az=>by cases az<;>simp [ziv]
 | x::l,[]=>by simp [ziv]
 | x::l,a::az=>by
  have:=zuv l az;rw [ziv,zy8,zy6];unfold yhx;split<;>simp<;>omega
theorem yez:∀ {l:List Step} {az:List Answer} {m:Message},m∈ziv l az->∃ x∈l,x.message=m
 | [],az,m,h=>by cases az<;>simp [ziv] at h
 | x::l,[],m,h=>by simp [ziv] at h
 | x::l,a::az,m,h=>by
  rw [ziv] at h;rcases zy11.1 h with h | h
  . unfold yhx at h
    split at h
    . rw [zy9] at h;exact ⟨x,by simp,h.symm⟩
    . cases h
  . obtain ⟨y,y1,y2⟩:=yez h
    exact ⟨y,by simp [y1],y2⟩
end Gh
namespace Gh
open Ser Snd Ln Jn Srt
def ofP (c:Config) (H:List Prt) (id:Nat) (p:zaw):Bool:=decide ((H[(p.number-c.first).toNat]?).map Prt.id=some id)
section
variable {N M:Nat} {c:Config} {L:List Message} {H:List Prt} {A:Nat->Prop} {D:List Nat} {l:zer}
theorem GL.there (g:GL N M c L H A D l) {id:Nat} {m:Message} (hm:L[id]?=some m) (h2:l.sender.fates[id]?=some 2) (hD:id∉D):m.data.length<=tot (l.receiver.pieces.filter (ofP c H id)):=by
 have hw:=zcj g.li.snd.cfg;rw [g.gs.cfg] at hw;by_cases hd0:m.data=[]
 . rw [hd0];exact zy96 _
 have hwhole:Whole c L H id:=by
  rcases g.gs.whole id (zdz hm) (by rw [h2];decide) with ⟨q,q1,q2⟩ | h
  . have:=(g.li.snd.queue q q1).fate
    rw [q2,show ((id:Nat):Int).toNat=id by omega,h2] at this;cases this
  . exact h
 have hof:∀ p∈l.receiver.pieces.filter (ofP c H id),∃ (i:Nat) (y:Prt),H[i]?=some y/\p.number=c.first+i/\p.chunk=y.chunk/\y.id=id/\znr c.part m p.chunk:=by
  intro p hp;obtain ⟨g1,g2⟩:=zy40.1 hp;obtain ⟨i,y,z1,z2,z3,z4,z5,z6⟩:=g.gr.pieces p g1;have g2:=zy36 g2;rw [show (p.number-c.first).toNat=i by omega,z1] at g2;have e:y.id=id:=by simpa using g2
  obtain ⟨v,v1,v2,v3,v4⟩:=g.gs.hi.msg y (zy4 z1);rw [e,hm] at v1;cases v1;exact ⟨i,y,z1,z2,z3,e,by rw [z3];exact v4 z4⟩
 obtain ⟨b,hb⟩:=zwl (P:=c.part) (m:=m) zz0 (fun p hp=>by obtain ⟨i,y,z1,z2,z3,z4,z5⟩:=hof p hp;exact z5) (l:=l.receiver.pieces.filter (ofP c H id)) (by
  refine (g.gr.apart.filter _).imp_of_mem fun {p q} hp hq hpq=>?_
  obtain ⟨i,y,y1,y2,y3,y4,y5⟩:=hof p hp;obtain ⟨j,z,z1,z2,z3,z4,z5⟩:=hof q hq;rw [y3,z3];intro e;have:=g.gs.hi.at y1 z1 (y4.trans z4.symm) e;omega) hd0 (fun j hj=>by
  obtain ⟨y,y1,y2,y3,y4⟩:=hwhole m hm j hj;obtain ⟨i,hi⟩:=zy46 y1;rcases g.gr.kept i y hi (g.gs.told id h2 i y hi y2) with ⟨p,p1,p2⟩ | h | h
  . obtain ⟨i',y',z1,z2,z3,z4,z5,z6⟩:=g.gr.pieces p p1
    have:i'=i:=by omega
    subst this;rw [hi] at z1;cases z1;exact ⟨p,zy40.2 ⟨p1,zy19 (by rw [show (p.number-c.first).toNat=i' by omega,hi];simp [y2])⟩,by rw [z3];exact y3⟩
  . rw [y2] at h;exact absurd h hD
  . unfold gF at h
    rw [y2,h2] at h;cases h)
 have hd:=yke (P:=c.part) (m:=m) zz0 hb fun p hp=>by obtain ⟨i,y,z1,z2,z3,z4,z5⟩:=hof p hp;exact z5
 rw [<- hd,Rcv.ykf hb];exact zy25 _
end
theorem yuh (f:zaw->Bool):∀ l:List zaw,tot l=tot (l.filter f)+tot (l.filter fun p=>!f p)
 | []=>rfl
 | p::l=>by
  have ih:=yuh f l;rw [zy47,zy47,zeb,ih];cases f p<;>simp [zeb]<;>omega
theorem yug {dl:Nat->Nat} {f:Nat->zaw->Bool} (hf:∀ i j p,f i p=true->f j p=true->i=j):∀ (X:List Nat) (Q:List zaw),X.Nodup->(∀ i∈X,dl i<=tot (Q.filter (f i)))->(X.map dl).sum<=tot Q
 | [],Q,_,_=>zy96 _
 | i::X,Q,hn,h=>by
  obtain ⟨n1,n2⟩:=zy67.1 hn;have ih:=yug hf X (Q.filter fun p=>!f i p) n2 fun j hj=>by
   have e:(Q.filter fun p=>!f i p).filter (f j)=Q.filter (f j):=by
    rw [List.filter_filter];refine List.filter_congr fun p _=>?_
    cases h1:f j p with
    | false=>simp
    | true =>
     cases h2:f i p with
     | false=>simp
     | true=>exact absurd ((hf i j p h2 h1) ▸ hj) n1
   rw [e];exact h j (by simp [hj])
  have h1:=h i zz4;have h2:=yuh (f i) Q;rw [zy21,zy80];omega
section
variable {α:Type} [DecidableEq α]
def lkA:List (α×Int)->α->Int
 | [],_=>0
 | (k,v)::r,s=>if s=k then v else lkA r s
def upA:List (α×Int)->α->Int->List (α×Int)
 | [],k,v=>[(k,v)]
 | (k',v')::r,k,v=>if k=k' then (k,v)::r else (k',v')::upA r k v
theorem ztn (k s:α) (v:Int):∀ E:List (α×Int),lkA (upA E k v) s=if s=k then v else lkA E s
 | []=>rfl
 | (k',v')::r=>by
  rw [upA];by_cases e:k=k'
  . rw [zy1 e,lkA,lkA,<- e]
    by_cases e2:s=k
    . rw [zy1 e2,zy1 e2]
    . rw [zy0 e2,zy0 e2,zy0 e2]
  . rw [zy0 e,lkA,lkA,ztn k s v r]
    by_cases e2:s=k'
    . rw [zy1 e2,zy1 e2,zy0 (fun e3=>e (e3.symm.trans e2))]
    . rw [zy0 e2,zy0 e2]
theorem yly (k:α) (v:Int):∀ E:List (α×Int),∀ x∈(upA E k v).map Prod.fst,x=k\/x∈E.map Prod.fst
 | [],x,h=>by simpa [upA] using h
 | (k',v')::r,x,h=>by
  rw [upA] at h;split at h
  . rcases zy14.1 h with h | h
    . exact .inl h
    . exact .inr (zy103 _ h)
  . rcases zy14.1 h with h | h
    . exact .inr zz59
    . exact (yly k v r x h).imp id (zy103 _)
theorem zlq (k:α) (v:Int):∀ E:List (α×Int),(E.map Prod.fst).Nodup->((upA E k v).map Prod.fst).Nodup
 | [],_=>by simp [upA]
 | (k',v')::r,h=>by
  obtain ⟨h1,h2⟩:=zy67.1 h;rw [upA];split
  . rename_i e;subst e;exact zy67.2 ⟨h1,h2⟩
  . rename_i e
    refine zy67.2 ⟨fun hm=>?_,zlq k v r h2⟩;rcases yly k v r _ hm with h3 | h3
    . exact e h3.symm
    . exact h1 h3
theorem ygw:∀ {E:List (α×Int)} {k:α} {n:Int},(E.map Prod.fst).Nodup->(k,n)∈E->lkA E k=n
 | (k',v')::r,k,n,h,hm=>by
  obtain ⟨h1,h2⟩:=zy67.1 h;rw [lkA];rcases zy14.1 hm with hm | hm
  . cases hm;rw [zy1 rfl]
  . rw [zy0 fun e=>h1 (by have h3:=zy134 (f:=Prod.fst) hm;rw [<- e];exact h3)]
    exact ygw h2 hm
theorem ykg {β:Type} (key:β->α) (w:α->Nat):∀ (X:List β) (K:List α),K.Nodup->(K.map fun k=>(X.filter fun x=>decide (key x=k)).length*w k).sum<=(X.map fun x=>w (key x)).sum
 | [],K,_=>by
  have:(K.map fun k=>(([]:List β).filter fun x=>decide (key x=k)).length*w k).sum=0:=by
   induction K with
   | nil=>rfl
   | cons k K ih=>rename_i h;simpa using ih (zy67.1 h).2
  omega
 | x::X,K,hn=>by
  have ih:=ykg key w X K hn;have h1:∀ K:List α,K.Nodup->(K.map fun k=>((x::X).filter fun x=>decide (key x=k)).length*w k).sum<=w (key x)+(K.map fun k=>(X.filter fun x=>decide (key x=k)).length*w k).sum:=by
   intro K
   induction K with
   | nil=>intro _;exact zy96 _
   | cons k K ih2 =>
    intro hk;obtain ⟨k1,k2⟩:=zy67.1 hk;rw [zy21,zy21,zy80,zy80,zy47];by_cases e:key x=k
    . have h3:(K.map fun k=>((x::X).filter fun x=>decide (key x=k)).length*w k)=K.map fun k=>(X.filter fun x=>decide (key x=k)).length*w k:=by
       refine zy79 fun j hj=>?_
       rw [zy47,zy0 (by simpa using fun e2:key x=j=>k1 (by rw [<- e,e2];exact hj))]
      rw [zy1 (by simpa using e),h3,zy6,zy43,Nat.one_mul,<- e];omega
    . have:=ih2 k2
      rw [zy0 (by simpa using e)];omega
  have:=h1 K hn;rw [zy21,zy80];omega
end
abbrev Key:=ByteArray
def xfj (s:Int) (d:List UInt8):Key:=(⟨[by8 s].toArray⟩:ByteArray)++⟨d.toArray⟩
theorem ztl (s:Int) (d:List UInt8):(xfj s d).size=1+d.length:=by
 unfold xfj;rw [ByteArray.size_append]
 rfl
def zmu (m:Message):Key:=xfj m.stream m.data
def zve (a:zbw):Key:=xfj a.stream a.data
def ymk (T:List Message) (F:List Int) (k:Key):Nat:=((T.zip F).filter fun z=>decide (z.2=2)&&decide (zmu z.1=k)).length
def ypq (lg:List zbw) (k:Key):Nat:=(lg.filter fun a=>decide (zve a=k)).length
def ycz (E:List (Key×Int)):Nat:=(E.map fun e=>(max e.2 0).toNat*(e.1.size-1)).sum
section
variable {N M:Nat} {c:Config} {L:List Message} {H:List Prt} {A:Nat->Prop} {D:List Nat} {l:zer}
def yfe (T:List Message) (F:List Int) (D:List Nat):List Nat:=(List.range T.length).filter fun i=>decide (F[i]?=some 2)&&!decide (i∈D)
theorem xdq (p q r:Nat->Bool):∀ X:List Nat,(X.filter fun i=>p i&&r i).length=(X.filter fun i=>(p i&&q i)&&r i).length+((X.filter fun i=>p i&&!q i).filter r).length
 | []=>rfl
 | i::X=>by
  have ih:=xdq p q r X;cases hp:p i<;>cases hq:q i<;>cases hr:r i<;>simp only [zy47,hp,hq,hr,zy133,Bool.false_and,Bool.and_true,Bool.and_false,Bool.not_true,Bool.not_false,if_true,if_false,zy70,zy6]<;>omega
theorem yuz {T:List Message} {F:List Int} {D:List Nat} {lg:List zbw} (hl:F.length=T.length) (hb:xda T lg D) (k:Key) :
 ymk T F k<=ypq lg k+((yfe T F D).filter fun i=>decide ((T[i]?).map zmu=some k)).length:=by
 have h1:ymk T F k<=(((List.range T.length).filter fun i=>decide (F[i]?=some 2)&&decide ((T[i]?).map zmu=some k))).length:=by
  unfold ymk;rw [<- yia (p:=fun z:Message×Int=>decide (z.2=2)&&decide (zmu z.1=k)) (l:=List.range T.length) (m:=T.zip F) (by rw [List.length_zip,List.length_range];omega),<- zy3 (f:=Prod.fst)];refine ztt ((List.nodup_range).sublist yib) fun i hi=>?_
  obtain ⟨j,z,z1,z2,z3⟩:=xfa hi;have hj:j=i:=by
   have:=zdz z1;rw [zy2 this,List.getElem_range] at z1;exact Option.some.inj z1
  subst hj;have z3:(decide (z.2=2)&&decide (zmu z.1=k))=true:=z3;rw [zy138] at z2;simp only [zy12,zy34] at z3;refine zy40.2 ⟨List.mem_range.2 (zdz z2.1),?_⟩;rw [z2.1,z2.2];simp [z3.1,z3.2]
 have h2:=xdq (fun i=>decide (F[i]?=some 2)) (fun i=>decide (i∈D)) (fun i=>decide ((T[i]?).map zmu=some k)) (List.range T.length);have h3:((List.range T.length).filter fun i=>(decide (F[i]?=some 2)&&decide (i∈D))&&decide ((T[i]?).map zmu=some k)).length<=ypq lg k:=by
  unfold ypq;rw [<- yia (p:=fun a:zbw=>decide (zve a=k)) (l:=D) (m:=lg) hb.len,<- zy3 (f:=Prod.fst)];refine ztt ((List.nodup_range).filter _) fun i hi=>?_
  have hi:=(zy40.1 hi).2;simp only [zy12,zy34] at hi;obtain ⟨j,hj⟩:=zy46 hi.1.2;obtain ⟨a,ha⟩:∃ a,lg[j]?=some a:=⟨_,zy2 (by have:=zdz hj;have:=hb.len;omega)⟩
  obtain ⟨m,m1,m2,m3,m4⟩:=hb.log j i a hj ha;have h5:=hi.2;rw [m1] at h5;have h5:zmu m=k:=by simpa using h5
  exact xfb hj ha (by
   show decide (zve a=k)=true;rw [<- h5];unfold zve zmu;rw [m2,m4];simp)
 unfold yfe;omega
theorem GL.held (g:GL N M c L H A D l) {E:List (Key×Int)} (hn:(E.map Prod.fst).Nodup) (hE:∀ k,lkA E k=(ymk L l.sender.fates k:Int)-ypq l.receiver.log k):ycz E<=tot l.receiver.pieces:=by
 have hlen:=g.ki.len;have hX:∀ i∈yfe L l.sender.fates D,∃ m,L[i]?=some m/\l.sender.fates[i]?=some 2/\i∉D:=fun i hi=>by
  obtain ⟨h1,h2⟩:=zy40.1 hi;simp only [zy12,zy34,zy51,zy45] at h2;exact ⟨_,zy2 (List.mem_range.1 h1),h2.1,h2.2⟩
 have h1:((yfe L l.sender.fates D).map fun i=>((L[i]?).map fun m=>m.data.length).getD 0).sum<=tot l.receiver.pieces:=by
  refine yug (f:=ofP c H) (fun i j p hi hj=>?_) _ _ ((List.nodup_range).filter _) fun i hi=>?_
  . have hi:=zy36 hi
    have hj:=zy36 hj;rw [hi] at hj;exact Option.some.inj hj
  . obtain ⟨m,m1,m2,m3⟩:=hX i hi
    rw [m1];exact g.there m1 m2 m3
 have h2:=ykg (fun i:Nat=>(L[i]?).map zmu) (fun k=>(k.map fun b=>ByteArray.size b-1).getD 0) (yfe L l.sender.fates D) ((E.map Prod.fst).map some) (by
  refine List.Pairwise.map _ (fun a b h=>?_) hn;exact fun e=>h (Option.some.inj e))
 have h3:((yfe L l.sender.fates D).map fun i=>(((L[i]?).map zmu).map fun b=>ByteArray.size b-1).getD 0)=(yfe L l.sender.fates D).map fun i=>((L[i]?).map fun m=>m.data.length).getD 0:=by
  refine zy79 fun i hi=>?_
  obtain ⟨m,m1,-⟩:=hX i hi;rw [m1];show (zmu m).size-1=m.data.length;unfold zmu;rw [ztl];omega
 rw [h3,zy95,zy95] at h2;refine zy84 ?_ (zy84 h2 h1);unfold ycz;have h4:∀ e∈E,(max e.2 0).toNat*(e.1.size-1)<=((yfe L l.sender.fates D).filter fun x=>decide ((L[x]?).map zmu=some e.1)).length*(e.1.size-1):=by
  intro e he;refine zy54 _ ?_;have h5:=ygw (k:=e.1) (n:=e.2) hn he;rw [hE] at h5;have h6:=yuz (lg:=l.receiver.log) hlen g.books e.1;omega
 clear hE h1 h2 h3 hn
 induction E with
 | nil=>exact zy96 _
 | cons e E ih =>
  rw [zy21,zy21,zy80,zy80];exact Nat.add_le_add (h4 e zz4) (ih fun x hx=>h4 x zz29)
end
end Gh
namespace Ln
open Ser
abbrev zjk (l:List zay):zad:=.live (.row 110 3 (l.map zay.row))
abbrev pks (l:List zay):HV:=.p (.sl 3 (l.map zay.row))
def lnC (s:zab) (r:Receiver) (w:HV):List HV:=[i64 s.config.streams,i64 s.config.part,i64 s.config.packet,i64 s.config.paths,i64 s.config.turns,i64 s.config.waiting,i64 s.config.first,i64 s.clock,Sch.qs s.queue,i64 s.sched.last,i64 s.sched.hand,ints s.sched.had,Sco.zrr s.out,Snd.xfl s.paths,i64 s.cum,i64 s.next,i64 s.room,ints s.mids,ints s.fates,zbo s.forward,i64 s.recover,
 i64 r.config.streams,i64 r.config.part,i64 r.config.packet,i64 r.config.paths,i64 r.config.turns,i64 r.config.waiting,i64 r.config.first,i64 r.cum,.p (.sl 2 (r.zax.map Span.row)),.p (.sl 12 (r.pieces.map zaw.row)),ints r.zbi,.p (.sl 4 (r.log.map zbw.row)),w]
abbrev lnB (s:zab) (r:Receiver) (w:HV):zad:=.live (.cells 40 (lnC s r w))
theorem yls (ps:List zay) (h1:ps.length<2 ^ 22) (h2:∀ p∈ps,p.bytes.length<2 ^ 38):zao Tryz.prog 112 [pks ps] zae (.own 0) (lk .free [(0,zjk ps)]):=by
 refine zam mixed Tryz.func112 zz5 [] (fun _=>.inl rfl) ?_;(conv=>whnf);refine ⟨{x:List zay×List zay // ps=x.1++x.2},fun | ⟨(A,B),_⟩=>hs 22 [(3,.own 900),(6,pks ps),(7,i64 ps.length),(8,i64 A.length)] [(900,zjk A)],fun x=>x.1.2.length,⟨([],ps),rfl⟩,?_,?_⟩
 . exact (zdi [(900,none)])
 rintro ⟨⟨A,B⟩,h⟩;dsimp only at h;(conv=>whnf);cases B with
 | cons p B =>
  have hz:=zbz h;have hp:=h2 p (zkn h);refine sT ?_;refine zak h rfl (zw ?_)
  (refine zar [(0,14)]  ?_;(conv=>whnf);refine dO (Cl.zcq p.bytes zz0) ?_)
  refine zaa (c:=((A.map zay.row).length+1)*40<=140737488355328) zz3 (zw ?_);refine sF ?_;exact ⟨⟨(A++[p],B),zan h⟩,(zcl [(900,some 19)] (by repeat' (first | exact z0 | refine z1 ?_ | refine ⟨?_,?_⟩ | ((exact zca (f:=zay.row) rfl rfl)) | exact z2))),by simp⟩
 | nil =>
  have hz:=zco h;rw [zy7] at h;refine sN ?_;exact zal [(0,some 900)] rfl rfl trivial rfl rfl ⟨⟨rfl,.inl ⟨900,rfl,by exact zaq (by rw [h])⟩⟩,trivial⟩
theorem yeu (l:zer) (h1:Snd.Fit l.sender) (h2:Rcv.Fit l.receiver) (h3:l.way.length<2 ^ 22) (h4:∀ p∈l.way,p.bytes.length<2 ^ 38):zao Tryz.prog 55 [l.hv] zae (.agg (lnC l.sender l.receiver (.own 0))) (lk .free [(0,zjk l.way)]):=by
 refine zam mixed Tryz.func55 zz5 [] (fun _=>.inl rfl) ?_;(conv=>whnf)
 (refine cP ?_;refine dL (Snd.zur l.sender h1) ?_)
 (refine cP ?_;refine dL (Rcv.zur l.receiver h2) ?_)
 (refine zar [(0,20)]  ?_;(conv=>whnf);refine dO (yls l.way h3 h4) ?_)
 refine sD ?_;exact yy11
theorem yle (w A:List zay) (p:zay):zvf w (A++[p])=xcu (zvf w A) p:=by simp [zvf]
theorem zkk (s:zab) (r:Receiver) (w ps:List zay) (h1:ps.length<2 ^ 62):zao Tryz.prog 116 [.ptr 1000 0,pks ps] (lk .free [(1000,lnB s r (.own 1001)),(1001,zjk w)]) (.tup []) (lk .free [(1000,lnB s r (.own 0)),(0,zjk (zvf w ps)),(1001,.dead)]):=by
 refine zam mixed Tryz.func116 zz5 [1000,1001] zbh ?_;(conv=>whnf);refine ⟨{x:List zay×List zay // ps=x.1++x.2},fun | ⟨(A,B),_⟩=>hsP [1000,1001] 29 [(0,.ptr 1000 0),(6,pks ps),(7,i64 ps.length),(8,i64 A.length)] [(1000,lnB s r (.own 900)),(900,zjk (zvf w A)),(1001,.dead)],fun x=>x.1.2.length,⟨([],ps),rfl⟩,?_,?_⟩
 . exact (zcu [(1000,some 1000),(1001,some 1001),(900,some 1001)])
 rintro ⟨⟨A,B⟩,h⟩;dsimp only at h;(conv=>whnf);cases B with
 | cons p B =>
  have hz:=zbz h;refine sT ?_;refine zak h rfl (zw ?_);by_cases c:(zvf w A).length<40
  case pos =>
   refine sT ?_;refine zaa (c:=(((zvf w A).map zay.row).length+1)*40<=140737488355328) zz3 (zw ?_);refine sD ?_;refine sF ?_;exact ⟨⟨(A++[p],B),zan h⟩,(zbu [(1000,some 1000),(1001,some 1001),(900,some 25)] (by repeat' (first | exact z0 | refine z1 ?_ | refine ⟨?_,?_⟩ | ((exact zca (f:=zay.row) (by rw [yle,xcu,zy1 c]) rfl)) | exact z2))),by simp⟩
  case neg =>
   refine sN ?_;refine sF ?_;exact ⟨⟨(A++[p],B),zan h⟩,(zbu [(1000,some 1000),(1001,some 1001),(900,some 900)] (by repeat' (first | exact z0 | refine z1 ?_ | refine ⟨?_,?_⟩ | ((exact zaq (by rw [yle,xcu,zy0 c]))) | exact z2))),by simp⟩
 | nil =>
  have hz:=zco h;rw [zy7] at h;refine sN ?_
  (exact zcz [(1000,some 1000),(1001,some 1001),(0,some 900)] zz46)
end Ln
namespace Ln
open Ser
theorem yqr (back:Bool) (x:zer×Bool) (c:Chunk):(zhr back x c).1.way=x.1.way:=by
 unfold zhr;(repeat' split)<;>rfl
theorem yun:∀ cs:List Chunk,cs.length<=Rcv.wts cs
 | []=>by simp [Rcv.wts]
 | c::cs=>by
  have:=yun cs;rw [Rcv.zmm,zy6];unfold Rcv.wt;omega
theorem yhw (r:Receiver):Pck.zfv [Rcv.zmp r]:=⟨by simp,fun c hc=>by
 rw [zy9] at hc;subst hc;exact ⟨by simp [Rcv.zmp];omega,by simp [Rcv.zmp]⟩⟩
theorem yob {N M:Nat} (l:zer) (p:zay) (h:LI N M l) (hM:M+120<=2000000) (hp:p.bytes.length<=120):zao Tryz.prog 118 [.ptr 1000 0,p.hv] (lk .free [(1000,lnB l.sender l.receiver (.own 1001)),(1001,zjk l.way)]) (.tup [])
 (lk .free [(1000,lnB (zgd l p).sender (zgd l p).receiver (.own 0)),(0,zjk (zgd l p).way),(1001,.dead)]):=by
 obtain ⟨path,back,bytes⟩:=p;dsimp only at hp;generalize hT:zgd l ⟨path,back,bytes⟩=T;refine zam mixed Tryz.func118 zz5 [1000,1001] zbh ?_;(conv=>whnf);have hw:=zuc bytes
 (refine cP ?_;refine dL (Pck.yhp bytes zz0) ?_)
 rw [zgd] at hT;dsimp only at hT;have hall:zjy l ⟨path,back,bytes⟩=(Pck.zfu bytes).1.foldl (zhr back) (l,false):=rfl;generalize Pck.zfu bytes=K at hT hw hall ⊢;obtain ⟨cs,e⟩:=K;dsimp only at hT hw hall;by_cases c1:e=0
 case neg =>
  rw [zy1 c1] at hT;subst hT;rw [show (e != 0)=true from zy113.2 c1];(conv=>whnf)
  (exact zby [(1000,some 1000),(1001,some 1001),(0,some 1001)])
 case pos =>
 subst c1;rw [zy0 (fun h=>h rfl)] at hT;(conv=>whnf)
 repeat refine sG ?_
 refine ⟨{x:(zer×Bool)×List Chunk×List Chunk // cs=x.2.1++x.2.2/\x.2.1.foldl (zhr back) (l,false)=x.1/\LI N (M+Rcv.wts x.2.1) x.1.1/\x.1.1.way=l.way},fun | ⟨((y,told),A,B),_⟩=>hsP [1000,1001] 85 [(0,.ptr 1000 0),(3,.ptr 3 0),(6,zbo told),(19,.p (.sl 11 (cs.map Chunk.row))),(20,i64 cs.length),(21,i64 A.length)] [(1000,lnB y.sender y.receiver (.own 1001)),(1001,zjk l.way),(3,.live (.cells 110 (⟨path,back,bytes⟩:zay).cells))],fun x=>x.1.2.2.length,⟨((l,false),[],cs),rfl,rfl,h,rfl⟩,?_,?_⟩
 . exact (zcu [(1000,some 1000),(1001,some 1001),(3,some 3)])
 rintro ⟨⟨⟨y,told⟩,A,B⟩,k1,k2,k3,k4⟩;dsimp only at k1 k2 k3 k4;(conv=>whnf);cases B with
 | cons c B =>
  have hz:=zbz k1;obtain ⟨w1,w2⟩:=hw;have hcl:=yun cs;have hc:=w2 c (zkn k1);have hsum:Rcv.wts cs=Rcv.wts A+(Rcv.wt c+Rcv.wts B):=by rw [k1,Rcv.yum,Rcv.zmm]
  have hwt:Rcv.wt c=c.data.length+c.zbs.length+1:=rfl;have hnx:(A++[c]).foldl (zhr back) (l,false)=zhr back (y,told) c:=by rw [zy93,k2];rfl
  have hli:=zyo (back:=back) (x:=(y,told)) (c:=c) k3 zz0;have hwy:=(yqr back (y,told) c).trans k4;rw [show M+Rcv.wts A+Rcv.wt c=M+Rcv.wts (A++[c]) by rw [Rcv.yum,Rcv.zmm];simp [Rcv.wts];omega] at hli;have hfit:=k3.rcv.fit zz0;refine sT ?_;refine zak k1 rfl (zw ?_)
  repeat refine sG ?_
  cases back with
  | true =>
   conv=>whnf
   (refine cP ?_;refine dL (Snd.yto y.sender c k3.snd.fit k3.snd.right zz0) ?_)
   refine sD ?_
   repeat refine sG ?_
   refine sF ?_;exact ⟨⟨(zhr true (y,told) c,A++[c],B),zan k1,hnx,hli,hwy⟩,(zcu [(1000,some 1000),(1001,some 1001),(3,some 3)]),by simp⟩
  | false =>
   conv=>whnf
   repeat refine sG ?_
   by_cases d1:c.kind=1
   case pos =>
    have e1:zhr false (y,told) c=({y with receiver:=Rcv.data y.receiver c},true):=by unfold zhr;rw [zy0 (by decide),zy1 d1]
    rw [e1] at hnx hli hwy;rw [show (c.kind==1)=true from zy37.2 d1];(conv=>whnf)
    (refine cP ?_;refine dL (Rcv.ynz y.receiver c (k3.rcv.dfit zz0 zz0)) ?_)
    refine sD ?_
    repeat refine sG ?_
    refine sF ?_;exact ⟨⟨(({y with receiver:=Rcv.data y.receiver c},true),A++[c],B),zan k1,hnx,hli,hwy⟩,(zcu [(1000,some 1000),(1001,some 1001),(3,some 3)]),by simp⟩
   case neg =>
    rw [show (c.kind==1)=false from zy15.2 d1];(conv=>whnf)
    repeat refine sG ?_
    by_cases d2:c.kind=3
    case pos =>
     have e1:zhr false (y,told) c=({y with receiver:=Rcv.forward y.receiver c},true):=by unfold zhr;rw [zy0 (by decide),zy0 d1,zy1 d2]
     rw [e1] at hnx hli hwy;rw [show (c.kind==3)=true from zy37.2 d2];(conv=>whnf)
     (refine cP ?_;refine dL (Rcv.yac y.receiver c k3.rcv zz0 zz0) ?_)
     refine sD ?_
     repeat refine sG ?_
     refine sF ?_;exact ⟨⟨(({y with receiver:=Rcv.forward y.receiver c},true),A++[c],B),zan k1,hnx,hli,hwy⟩,(zcu [(1000,some 1000),(1001,some 1001),(3,some 3)]),by simp⟩
    case neg =>
     have e1:zhr false (y,told) c=(y,told):=by unfold zhr;rw [zy0 (by decide),zy0 d1,zy0 d2]
     rw [e1] at hnx hli hwy;rw [show (c.kind==3)=false from zy15.2 d2];(conv=>whnf)
     repeat refine sG ?_
     refine sF ?_;exact ⟨⟨((y,told),A++[c],B),zan k1,hnx,hli,hwy⟩,(zcu [(1000,some 1000),(1001,some 1001),(3,some 3)]),by simp⟩
 | nil =>
  have hz:=zco k1;rw [zy7] at k1;rw [<- k1] at k2 k3;rw [hall,k2] at hT;dsimp only at hT;obtain ⟨w1,w2⟩:=hw;have hfit:=k3.rcv.fit zz0;refine sN ?_;cases told with
  | false =>
   rw [zy0 (by decide)] at hT;subst hT;(conv=>whnf)
   (exact zcz [(1000,some 1000),(1001,some 1001),(0,some 1001)] zz30)
  | true =>
   rw [zy1 rfl] at hT;(conv=>whnf)
   repeat refine sG ?_
   have hcb:=k3.rcv.cumB zz0
   (refine cP ?_;refine dL (Rcv.yok y.receiver (by have:=hfit.zax;omega) (by have:=hfit.pieces;omega) (by have:=hfit.bytes;omega) hcb.1 hcb.2 (k3.rcv.spansB zz0)) ?_)
   (refine cP ?_;refine dL (Pck.zfr [Rcv.zmp y.receiver] 120 (yhw _)) ?_)
   unfold Ln.told at hT;generalize Pck.zcv [Rcv.zmp y.receiver] 120=K2 at hT ⊢;obtain ⟨b,e⟩:=K2;dsimp only at hT;by_cases c3:e=0
   case pos =>
    rw [zy1 c3] at hT;subst hT c3;(conv=>whnf)
    (refine zac [false,true] [(1000,1000),(1001,1001)] [(0,940)] ?_;(conv=>whnf);refine dG (zkk y.sender y.receiver l.way [⟨path,true,b⟩] zz4) ?_)
    (exact zcz [(1000,some 1000),(1001,some 1001),(0,some 940)] zz30)
   case neg =>
    rw [zy0 c3] at hT;subst hT;rw [show (e==0)=false from zy15.2 c3];(conv=>whnf)
    (exact zcz [(1000,some 1000),(1001,some 1001),(0,some 1001)] zz30)
end Ln
namespace Snd
open Ser
theorem PF.down {j i:Nat} {s:zab} (h:PF (j+i) s):PF j s:=⟨h.g,h.some,h.part,h.part2,h.msg,h.chunk,zy146 (Nat.add_le_add_left (zy54 _ (Nat.le_add_right j i)) _) h.bytes,h.few⟩
theorem PO.down {g:Config} {j i n k:Nat} {p:zgn} (h:PO g (j+i) n k p):PO g j n k p:=⟨h.pf.down,h.paths,h.outs,h.config,h.most⟩
theorem ykt:∀ (i:Nat) {g:Config} {j n k:Nat} {p:zgn},PO g (j+i) n k p->PO g j n (k+i) (zgx i p)
 | 0,_,_,_,_,_,h=>h
 | i+1,g,j,n,k,p,h=>by
  unfold zgx;rcases yha (j:=j+i) h with ⟨-,e⟩ | ⟨q,-,e,-,-,h2⟩
  . rw [e];exact h.down.mono zz0
  . rw [e]
    have:=ykt i h2;exact this.mono zz0
theorem ydn (most path:Int):∀ (n:Nat) (l:List Chunk),(zgj most path n l).length<=n
 | 0,l=>by simp [zgj]
 | n+1,l=>by
  have:=ydn most path n (l.drop (zcd most l).toNat);have h1:(zmo most path l).length<=1:=by unfold zmo;split<;>simp
  unfold zgj;split
  . simp
  . rw [zy8];omega
theorem zrd (most:Int) {k:Nat}:∀ (ls:List (List Chunk)) (i:Nat),(∀ l∈ls,l.length<=k)->(zcb most i ls).length<=k*ls.length
 | [],i,_=>by simp [zcb]
 | l::ls,i,h=>by
  have h1:=ydn most i l.length l;have h2:=zrd most ls (i+1) fun x hx=>h x zz29
  have h3:=h l zz4;unfold zcb;rw [zy8,zy6,Nat.mul_add];omega
theorem zol {N:Nat} {s:zab} (h:SI N s):(zlk s).2.length<2 ^ 62:=by
 have e1:=zxp (zlz (znw h.pf));have e2:=ykt (j:=1) 61 e1;have h1:=(zlz (znw h.pf)).pf.few;have h2:=h.npaths;have h3:=zcj h.cfg;have h4:=zrd s.config.packet (zkt s).out 0 fun l hl=>(e2.most l hl).1
 have h5:(zkt s).out.length=s.paths.length:=e2.outs;rw [h5] at h4;have h6:s.paths.length<=2:=by omega
 show (zcb s.config.packet 0 (zkt s).out).length<_;refine zy146 h4 (zy146 (Nat.mul_le_mul_left _ h6) ?_);omega
end Snd
namespace Ln
open Ser
def noR:Receiver:=⟨⟨0,0,0,0,0,0,0⟩,0,[],[],[],[]⟩
def noL:zer:=⟨Snd.noS,noR,[]⟩
def ydb (c:Config):zer×Int:=if Snd.zpe c=0 then (zoi c,0) else (noL,Snd.zpe c)
theorem zup (c:Config):zao Tryz.prog 54 [c.hv] zae (.tup [(ydb c).1.hv,i64 (ydb c).2]) zae:=by
 refine zas mixed Tryz.func54 zz5 ?_;(conv=>whnf);have pn:=Snd.zov c;by_cases c1:Snd.zpe c=0
 case neg =>
  rw [show ydb c=(noL,Snd.zpe c) from zy0 c1];rw [show Snd.yus c=(Snd.noS,Snd.zpe c) from zy0 c1] at pn
  (refine cP ?_;refine dL pn ?_)
  rw [show (Snd.zpe c != 0)=true from zy113.2 c1];(conv=>whnf)
  try rfl
 case pos =>
  have hw:=Snd.zcj c1;rw [show ydb c=(zoi c,0) from zy1 c1];rw [show Snd.yus c=(Snd.zrb c,0) from zy1 c1] at pn
  (refine cP ?_;refine dL pn ?_)
  repeat refine sG ?_
  (refine cP ?_;refine dL (Rcv.yts c zz0 zz0 zz0) ?_)
  ((refine zbg ?_ ?_;(· kernel_rfl);conv=>whnf);try refine sG ?_)
  try rfl
theorem yvf (l:List zay) (i j:Nat) (hij:i<=j) (hj:j<=l.length) (hb:l.length<2 ^ 40) :
 zao Tryz.prog 117 [.osl 1000 3 0 (l.map zay.row).length,i64 i,i64 j] (lk .free [(1000,.live (.row 110 3 (l.map zay.row)))])
  (.osl 1000 3 0 (l.length-(j-i))) (lk .free [(1000,.live (.row 110 3 ((l.take i++l.drop j).map zay.row++List.replicate (j-i) ([pi 0,pb false,.v (.slice none 0 0)]))))]):=by
 refine zam mixed Tryz.func117 zz5 [1000] zbh ?_;have hlr:(l.map zay.row).length=l.length:=by simp
 (conv=>whnf);refine sO ?_;by_cases h:i=j
 . subst h
   refine sT ?_;refine zal [(1000,some 1000)] rfl rfl ⟨rfl,trivial⟩ rfl ?_ ⟨⟨rfl,.inl ⟨1000,rfl,?_⟩⟩,trivial⟩
   . show HV.osl 1000 3 0 (l.length-(i-i))=HV.osl 1000 3 0 (l.map zay.row).length
     rw [hlr,zy90];rfl
   . show zad.live (.row _ 3 (l.map zay.row))=zad.live (.row _ 3 _)
     rw [zy23,zy90,zy135,zy7]
 . refine sN ?_
   refine sO ?_;refine sO ?_;refine ⟨_,rfl,?_,?_⟩
   . rw [hlr];omega
   (conv=>whnf);refine zaa zz3 ?_;(conv=>whnf);refine zbg ?_ ?_
   . kernel_rfl
   (conv=>whnf);refine zaa zz35 ?_;(conv=>whnf);refine zaa zz35 ?_;(conv=>whnf);refine zal [(1000,some 1000)] rfl rfl ⟨rfl,trivial⟩ rfl ?_ ⟨⟨rfl,.inl ⟨1000,rfl,?_⟩⟩,trivial⟩
   . show HV.osl 1000 3 0 _=HV.osl 1000 3 0 _
     congr 1;simp;omega
   . refine (congrArg (fun r=>zad.live (.row _ 3 r)) (zxz (rows:=l.map zay.row) (i:=i) (j:=j) (z:=([pi 0,pb false,.v (.slice none 0 0)])) hij (by rw [hlr];exact hj) ?_ ?_ ?_ ?_ ?_)).trans ?_
     . simp<;>omega
     . simp<;>omega
     . simp<;>omega
     . simp;omega
     . simp;omega
     . rw [zy41,zy121,zy106];rfl
theorem xdj (l:List zay) (i j:Nat) (hij:i<=j) (hj:j<=l.length) (hb:l.length<2 ^ 40) :
 zao Tryz.prog 117 [.own 1000,i64 i,i64 j] (lk .free [(1000,.live (.row 110 3 (l.map zay.row)))])
  (.own 0) (lk .free [(1000,.dead),(0,.live (.row 110 3 ((l.take i++l.drop j).map zay.row)))]):=by
 have h:=zjd (d:=0) (L:=[]) (rows:=(l.take i++l.drop j).map zay.row++List.replicate (j-i) ([pi 0,pb false,.v (.slice none 0 0)])) (ztf (yvf l i j hij hj hb)) (.inl rfl) zz3 rfl zz5
 rwa [zy88 zz3] at h
theorem ymo (a b:List zay) (x:zay) (i j:Int) (hi:i=a.length) (hj:j=a.length+1) (hb:(a++x::b).length<2 ^ 40) :
 zao Tryz.prog 117 [.own 1000,i64 i,i64 j] (lk .free [(1000,.live (.row 110 3 ((a++x::b).map zay.row)))])
  (.own 0) (lk .free [(1000,.dead),(0,.live (.row 110 3 ((a++b).map zay.row)))]):=by
 subst hi hj;have h:=xdj (a++x::b) a.length (a.length+1) zz0 zz4 hb
 rwa [zy147,show (a++x::b).drop (a.length+1)=b by rw [<- zy114,zy107];rfl,zy122] at h
theorem ybc {inp out:List zay} (a b:List zay) (x:zay) (i j:Int) (h1:inp=a++x::b) (h2:out=a++b) (hi:i=a.length) (hj:j=a.length+1) (hb:inp.length<2 ^ 40) :
 zao Tryz.prog 117 [.own 1000,i64 i,i64 j] (lk .free [(1000,.live (.row 110 3 (inp.map zay.row)))])
  (.own 0) (lk .free [(1000,.dead),(0,.live (.row 110 3 (out.map zay.row)))]):=by
 subst h1 h2;exact ymo a b x i j hi hj hb
theorem yxp {N M:Nat} (l:zer) (x:Step) (h:LI N M l) (hN:N+1<=2 ^ 20) (hM:M+120<=2000000) (hx:x.message.data.length<2 ^ 38) :
 zao Tryz.prog 65 [l.hv,x.hv] zae (.tup [.agg (lnC (doS l x).1.sender (doS l x).1.receiver (.own 0)),(doS l x).2.hv]) (lk .free [(0,zjk (doS l x).1.way)]):=by
 have hway:=h.way;have hby:=h.bytes;generalize hT:doS l x=T;rw [doS] at hT;refine zam mixed Tryz.func65 zz5 [] (fun _=>.inl rfl) ?_;(conv=>whnf)
 (refine zar [(0,20)]  ?_;(conv=>whnf);refine dO (yeu l h.snd.fit (h.rcv.fit h.small) zz0 (fun p hp=>by have:=hby p hp;omega)) ?_)
 by_cases c1:x.kind=1
 case pos =>
  rw [zy1 c1] at hT;rw [show (x.kind==1)=true from zy37.2 c1];(conv=>whnf);have ps:=Snd.ytw l.sender x.message h.snd.fit hx;by_cases e1:Snd.zfq l.sender x.message=0
  case pos =>
   rw [zy1 e1] at hT;subst hT;rw [Snd.yee e1] at ps
   (refine cP ?_;refine dL ps ?_)
   repeat refine sG ?_
   have hy:=(show LI (N+1) M {l with sender:=Snd.zjm l.sender x.message} from ⟨Snd.zzt h.snd e1 hN,h.rcv,h.small,h.way,h.bytes⟩)
   have hyw:=Snd.zcj hy.snd.cfg;have hyp:=hy.snd.npaths
   (refine cP ?_;refine dL (Snd.zln (({l with sender:=Snd.zjm l.sender x.message}:zer)).sender hy.snd.pf zz73 zz0) ?_)
   repeat refine sG ?_
   (refine zac [] [(1000,6),(1001,20)] [(0,950)] ?_;(conv=>whnf);refine dG (zkk (Snd.zlk (({l with sender:=Snd.zjm l.sender x.message}:zer)).sender).1 (({l with sender:=Snd.zjm l.sender x.message}:zer)).receiver (({l with sender:=Snd.zjm l.sender x.message}:zer)).way (Snd.zlk (({l with sender:=Snd.zjm l.sender x.message}:zer)).sender).2 (Snd.zol hy.snd)) ?_ ⟨rfl,rfl,rfl,⟨zz1,⟨zz1,trivial⟩⟩,⟨⟨rfl,rfl⟩,trivial⟩,rfl,rfl,rfl⟩)
   exact yy21
  case neg =>
   rw [zy0 e1] at hT;subst hT;rw [Snd.zsf rfl e1] at ps
   (refine cP ?_;refine dL ps ?_)
   rw [show (Snd.zfq l.sender x.message != 0)=true from zy113.2 e1];(conv=>whnf);exact yy11
 case neg =>
  rw [zy0 c1] at hT;rw [show (x.kind==1)=false from zy15.2 c1];(conv=>whnf)
  repeat refine sG ?_
  by_cases c2:x.kind=2\/x.kind=3\/x.kind=4
  case neg =>
   rw [zy0 c2] at hT;have c2:=not_or.1 c2;have c3:=not_or.1 c2.2;rw [show (x.kind==2)=false from zy15.2 c2.1];(conv=>whnf)
   repeat refine sG ?_
   rw [show (x.kind==3)=false from zy15.2 c3.1];(conv=>whnf)
   repeat refine sG ?_
   rw [show (x.kind==4)=false from zy15.2 c3.2];(conv=>whnf)
   repeat refine sG ?_
   by_cases c5:x.kind=5
   case pos =>
    rw [zy1 c5] at hT;subst hT;rw [show (x.kind==5)=true from zy37.2 c5];(conv=>whnf)
    repeat refine sG ?_
    (refine cP ?_;refine dL (Snd.yub l.sender h.snd.fit) ?_)
    repeat refine sG ?_
    have hy:=(show LI N M {l with sender:=Snd.tick l.sender} from ⟨Snd.yah h.snd,h.rcv,h.small,h.way,h.bytes⟩)
    have hyw:=Snd.zcj hy.snd.cfg;have hyp:=hy.snd.npaths
    (refine cP ?_;refine dL (Snd.zln (({l with sender:=Snd.tick l.sender}:zer)).sender hy.snd.pf zz73 zz0) ?_)
    repeat refine sG ?_
    (refine zac [] [(1000,6),(1001,20)] [(0,950)] ?_;(conv=>whnf);refine dG (zkk (Snd.zlk (({l with sender:=Snd.tick l.sender}:zer)).sender).1 (({l with sender:=Snd.tick l.sender}:zer)).receiver (({l with sender:=Snd.tick l.sender}:zer)).way (Snd.zlk (({l with sender:=Snd.tick l.sender}:zer)).sender).2 (Snd.zol hy.snd)) ?_ ⟨rfl,rfl,rfl,⟨zz1,⟨zz1,trivial⟩⟩,⟨⟨rfl,rfl⟩,trivial⟩,rfl,rfl,rfl⟩)
    exact yy21
   case neg =>
    rw [zy0 c5] at hT;subst hT;rw [show (x.kind==5)=false from zy15.2 c5];(conv=>whnf);exact yy11
  case pos =>
   rw [zy1 c2] at hT;have c6:x.kind=2\/x.kind≠2/\(x.kind=3\/x.kind≠3/\x.kind=4):=by omega
   rcases c6 with c6 | ⟨c8,c6 | ⟨c7,c6⟩⟩
   . rw [show (x.kind==2)=true from zy37.2 c6]
     conv=>whnf
     repeat refine sG ?_
     by_cases n0:x.n<0
     case pos =>
      rw [zy1 n0] at hT;subst hT;rw [show decide (x.n<0)=true from zy19 n0];(conv=>whnf);exact yy11
     case neg =>
     rw [zy0 n0] at hT;rw [show decide (x.n<0)=false from zy30 n0];(conv=>whnf);cases hp:l.way[x.n.toNat]? with
     | none =>
      rw [hp] at hT;dsimp only at hT;subst hT;have hge:=zy137.1 hp;rw [show decide (x.n>=((l.way.map zay.row).length:Int))=true from zy19 (by rw [zy3];omega)];(conv=>whnf);exact yy11
     | some p =>
     rw [hp] at hT;dsimp only at hT;have hlt:=(zy10.1 hp).1;have hpb:=hby p (zy4 hp);have hsp:l.way=l.way.take x.n.toNat++p::l.way.drop (x.n.toNat+1):=by
      obtain ⟨hk,e⟩:=zy10.1 hp;rw [<- e,zy108,zy23]
     have hsl:(l.way.take x.n.toNat).length=x.n.toNat:=by simp;omega
     have her:l.way.eraseIdx x.n.toNat=l.way.take x.n.toNat++l.way.drop (x.n.toNat+1):=zy100 _ _;rw [show decide (x.n>=((l.way.map zay.row).length:Int))=false from zy30 (by rw [zy3];omega)];(conv=>whnf)
     repeat refine sG ?_
     refine zaa ⟨by omega,by rw [zy3];omega⟩ (zw ?_);refine Snd.zaj hp zz0 (zw ?_);rw [zy0 (by omega),zy1 c6] at hT;rw [show (x.kind==4)=false from zy15.2 (by omega)];(conv=>whnf)
     repeat refine sG ?_
     refine zap (z:=x.n+1) (zbn zz0 zz0) (zw ?_)
     (refine zac [] [(1000,20)] [(0,930)] ?_;(conv=>whnf);refine dG (ybc (l.way.take x.n.toNat) (l.way.drop (x.n.toNat+1)) p x.n (x.n+1) hsp rfl zz0 zz0 zz0) ?_)
     rw [show (x.kind==2)=true from zy37.2 c6];(conv=>whnf);subst hT;have hli:LI N M {l with way:=l.way.eraseIdx x.n.toNat}:=⟨h.snd,h.rcv,h.small,by show (l.way.eraseIdx _).length<=40;rw [zy92];split<;>omega,fun q hq=>hby q (zy65 hq)⟩
     (refine zac [] [(1000,6),(1001,930)] [(0,940)] ?_;(conv=>whnf);refine dG (yob {l with way:=l.way.eraseIdx x.n.toNat} p hli hM hpb) ?_ ⟨rfl,rfl,rfl,⟨zz1,⟨⟨rfl,_,rfl,.inl ⟨rfl,(zaq (by rw [her]))⟩⟩,trivial⟩⟩,⟨⟨rfl,rfl⟩,trivial⟩,rfl,rfl,rfl⟩)
     repeat refine sG ?_
     have hy:=(yfw hli hpb hM)
     have hyw:=Snd.zcj hy.snd.cfg;have hyp:=hy.snd.npaths
     (refine cP ?_;refine dL (Snd.zln ((zgd {l with way:=l.way.eraseIdx x.n.toNat} p)).sender hy.snd.pf zz73 zz0) ?_)
     repeat refine sG ?_
     (refine zac [] [(1000,6),(1001,940)] [(0,950)] ?_;(conv=>whnf);refine dG (zkk (Snd.zlk ((zgd {l with way:=l.way.eraseIdx x.n.toNat} p)).sender).1 ((zgd {l with way:=l.way.eraseIdx x.n.toNat} p)).receiver ((zgd {l with way:=l.way.eraseIdx x.n.toNat} p)).way (Snd.zlk ((zgd {l with way:=l.way.eraseIdx x.n.toNat} p)).sender).2 (Snd.zol hy.snd)) ?_ ⟨rfl,rfl,rfl,⟨zz1,⟨zz1,trivial⟩⟩,⟨⟨rfl,rfl⟩,trivial⟩,rfl,rfl,rfl⟩)
     exact yy21
   . rw [show (x.kind==2)=false from zy15.2 c8]
     conv=>whnf
     repeat refine sG ?_
     rw [show (x.kind==3)=true from zy37.2 c6];(conv=>whnf)
     repeat refine sG ?_
     by_cases n0:x.n<0
     case pos =>
      rw [zy1 n0] at hT;subst hT;rw [show decide (x.n<0)=true from zy19 n0];(conv=>whnf);exact yy11
     case neg =>
     rw [zy0 n0] at hT;rw [show decide (x.n<0)=false from zy30 n0];(conv=>whnf);cases hp:l.way[x.n.toNat]? with
     | none =>
      rw [hp] at hT;dsimp only at hT;subst hT;have hge:=zy137.1 hp;rw [show decide (x.n>=((l.way.map zay.row).length:Int))=true from zy19 (by rw [zy3];omega)];(conv=>whnf);exact yy11
     | some p =>
     rw [hp] at hT;dsimp only at hT;have hlt:=(zy10.1 hp).1;have hpb:=hby p (zy4 hp);have hsp:l.way=l.way.take x.n.toNat++p::l.way.drop (x.n.toNat+1):=by
      obtain ⟨hk,e⟩:=zy10.1 hp;rw [<- e,zy108,zy23]
     have hsl:(l.way.take x.n.toNat).length=x.n.toNat:=by simp;omega
     have her:l.way.eraseIdx x.n.toNat=l.way.take x.n.toNat++l.way.drop (x.n.toNat+1):=zy100 _ _;rw [show decide (x.n>=((l.way.map zay.row).length:Int))=false from zy30 (by rw [zy3];omega)];(conv=>whnf)
     repeat refine sG ?_
     refine zaa ⟨by omega,by rw [zy3];omega⟩ (zw ?_);refine Snd.zaj hp zz0 (zw ?_);rw [zy0 (by omega),zy0 c8] at hT;rw [show (x.kind==4)=false from zy15.2 (by omega)];(conv=>whnf)
     repeat refine sG ?_
     refine zap (z:=x.n+1) (zbn zz0 zz0) (zw ?_)
     (refine zac [] [(1000,20)] [(0,930)] ?_;(conv=>whnf);refine dG (ybc (l.way.take x.n.toNat) (l.way.drop (x.n.toNat+1)) p x.n (x.n+1) hsp rfl zz0 zz0 zz0) ?_)
     rw [show (x.kind==2)=false from zy15.2 c8];(conv=>whnf)
     repeat refine sG ?_
     subst hT;have hli:LI N M {l with way:=l.way.eraseIdx x.n.toNat}:=⟨h.snd,h.rcv,h.small,by show (l.way.eraseIdx _).length<=40;rw [zy92];split<;>omega,fun q hq=>hby q (zy65 hq)⟩
     have hy:=hli;have hyw:=Snd.zcj hy.snd.cfg;have hyp:=hy.snd.npaths
     (refine cP ?_;refine dL (Snd.zln (({l with way:=l.way.eraseIdx x.n.toNat}:zer)).sender hy.snd.pf zz73 zz0) ?_)
     repeat refine sG ?_
     (refine zac [] [(1000,6),(1001,930)] [(0,950)] ?_;(conv=>whnf);refine dG (zkk (Snd.zlk (({l with way:=l.way.eraseIdx x.n.toNat}:zer)).sender).1 (({l with way:=l.way.eraseIdx x.n.toNat}:zer)).receiver (({l with way:=l.way.eraseIdx x.n.toNat}:zer)).way (Snd.zlk (({l with way:=l.way.eraseIdx x.n.toNat}:zer)).sender).2 (Snd.zol hy.snd)) ?_ ⟨rfl,rfl,rfl,⟨zz1,⟨⟨rfl,_,rfl,.inl ⟨rfl,(zaq (by rw [her]))⟩⟩,trivial⟩⟩,⟨⟨rfl,rfl⟩,trivial⟩,rfl,rfl,rfl⟩)
     exact yy21
   . rw [show (x.kind==2)=false from zy15.2 c8]
     conv=>whnf
     repeat refine sG ?_
     rw [show (x.kind==3)=false from zy15.2 c7];(conv=>whnf)
     repeat refine sG ?_
     rw [show (x.kind==4)=true from zy37.2 c6];(conv=>whnf)
     repeat refine sG ?_
     by_cases n0:x.n<0
     case pos =>
      rw [zy1 n0] at hT;subst hT;rw [show decide (x.n<0)=true from zy19 n0];(conv=>whnf);exact yy11
     case neg =>
     rw [zy0 n0] at hT;rw [show decide (x.n<0)=false from zy30 n0];(conv=>whnf);cases hp:l.way[x.n.toNat]? with
     | none =>
      rw [hp] at hT;dsimp only at hT;subst hT;have hge:=zy137.1 hp;rw [show decide (x.n>=((l.way.map zay.row).length:Int))=true from zy19 (by rw [zy3];omega)];(conv=>whnf);exact yy11
     | some p =>
     rw [hp] at hT;dsimp only at hT;have hlt:=(zy10.1 hp).1;have hpb:=hby p (zy4 hp);have hsp:l.way=l.way.take x.n.toNat++p::l.way.drop (x.n.toNat+1):=by
      obtain ⟨hk,e⟩:=zy10.1 hp;rw [<- e,zy108,zy23]
     have hsl:(l.way.take x.n.toNat).length=x.n.toNat:=by simp;omega
     have her:l.way.eraseIdx x.n.toNat=l.way.take x.n.toNat++l.way.drop (x.n.toNat+1):=zy100 _ _;rw [show decide (x.n>=((l.way.map zay.row).length:Int))=false from zy30 (by rw [zy3];omega)];(conv=>whnf)
     repeat refine sG ?_
     refine zaa ⟨by omega,by rw [zy3];omega⟩ (zw ?_);refine Snd.zaj hp zz0 (zw ?_);rw [zy1 c6] at hT;rw [show (x.kind==4)=true from zy37.2 c6];(conv=>whnf)
     (refine zar [(0,935)]  ?_;(conv=>whnf);refine dO (yls [p] zz4 (fun q hq=>by rw [zy9] at hq;subst hq;omega)) ?_)
     (refine zac [false,true] [(1000,6),(1001,20)] [(0,940)] ?_;(conv=>whnf);refine dG (zkk l.sender l.receiver l.way [p] zz4) ?_)
     repeat refine sG ?_
     subst hT;have xcs:LI N M {l with way:=zvf l.way [p]}:=ydt h fun q hq=>by rw [zy9] at hq;subst hq;exact hpb
     have hy:=xcs;have hyw:=Snd.zcj hy.snd.cfg;have hyp:=hy.snd.npaths
     (refine cP ?_;refine dL (Snd.zln (({l with way:=zvf l.way [p]}:zer)).sender hy.snd.pf zz73 zz0) ?_)
     repeat refine sG ?_
     (refine zac [] [(1000,6),(1001,940)] [(0,950)] ?_;(conv=>whnf);refine dG (zkk (Snd.zlk (({l with way:=zvf l.way [p]}:zer)).sender).1 (({l with way:=zvf l.way [p]}:zer)).receiver (({l with way:=zvf l.way [p]}:zer)).way (Snd.zlk (({l with way:=zvf l.way [p]}:zer)).sender).2 (Snd.zol hy.snd)) ?_ ⟨rfl,rfl,rfl,⟨zz1,⟨zz1,trivial⟩⟩,⟨⟨rfl,rfl⟩,trivial⟩,rfl,rfl,rfl⟩)
     exact yy21
theorem ytm {N M:Nat} (l:zer) (x:Step) (h:LI N M l) (hN:N+1<=2 ^ 20) (hM:M+120<=2000000) (hx:x.message.data.length<2 ^ 38) :
 zao Tryz.prog 65 [l.hv,x.hv] zae (.tup [(doS l x).1.hv,(doS l x).2.hv]) zae:=by
 refine zcg Tryz.func65 (yxp l x h hN hM hx) ?_;generalize doS l x=d;(conv=>whnf)
 rfl
theorem zcy {N M:Nat} (l:zer) (h:LI N M l):zao Tryz.prog 55 [l.hv] zae l.hv zae:=by
 have hway:=h.way;refine zcg Tryz.func55 (yeu l h.snd.fit (h.rcv.fit h.small) zz0 (fun p hp=>by have:=h.bytes p hp;omega)) ?_;(conv=>whnf)
 rfl
end Ln
namespace Ln
open Ser
abbrev xes (l:List Answer):zad:=.live (.row 81 2 (l.map Answer.row))
abbrev yzb (l:List Step):HV:=.p (.sl 7 (l.map Step.row))
abbrev lnL (l:zer):zad:=.live (.cells 40 l.cells)
abbrev xgj:List HV:=[i64 0,i64 0,i64 0,i64 0,i64 0,i64 0,i64 0,i64 0,zgc,i64 0,i64 0,zgc,zgc,zgc,i64 0,i64 0,i64 0,zgc,zgc,zbo false,i64 0,i64 0,i64 0,i64 0,i64 0,i64 0,i64 0,i64 0,i64 0,zgc,zgc,zgc,zgc,zgc]
def ziu (c:Config) (l:List Step):zer×List Answer×Int :=
 if Snd.zpe c≠0 then (noL,[],Snd.zpe c) else if l.length>200 then (noL,[],5) else ((zqf (zoi c) l).1,(zqf (zoi c) l).2,0)
theorem ysq (l:zer) (A:List Step) (x:Step):zqf l (A++[x])=((doS (zqf l A).1 x).1,(zqf l A).2++[(doS (zqf l A).1 x).2]):=by
 rw [yla];rfl
theorem yew (c:Config) (l:List Step) (h:Snd.zpe c≠0\/l.length>200) :
 zao Tryz.prog 21 [c.hv,yzb l] zae (.tup [(ziu c l).1.hv,.p (.sl 2 ((ziu c l).2.1.map Answer.row)),i64 (ziu c l).2.2]) zae:=by
 refine zas mixed Tryz.func21 zz5 ?_;generalize hT:ziu c l=T;rw [ziu] at hT;(conv=>whnf);have pn:=zup c;by_cases c1:Snd.zpe c=0
 case neg =>
  rw [zy1 c1] at hT;subst hT;rw [show ydb c=(noL,Snd.zpe c) from zy0 c1] at pn
  (refine cP ?_;refine dL pn ?_)
  rw [show (Snd.zpe c != 0)=true from zy113.2 c1];(conv=>whnf)
  try rfl
 case pos =>
  rw [zy0 (fun h=>h c1)] at hT;rw [show ydb c=(zoi c,0) from zy1 c1] at pn
  (refine cP ?_;refine dL pn ?_)
  repeat refine sG ?_
  have c2:l.length>200:=h.resolve_left (fun h=>h c1);rw [zy1 c2] at hT;subst hT;refine zai zz3 (zw ?_)
  try rfl
theorem yoh (c:Config) (l:List Step) (c1:Snd.zpe c=0) (c2:¬ l.length>200) (hb:∀ x∈l,x.message.data.length<2 ^ 38) :
 zao Tryz.prog 21 [c.hv,yzb l] zae (.tup [(ziu c l).1.hv,.own 0,i64 (ziu c l).2.2]) (lk .free [(0,xes (ziu c l).2.1)]):=by
 refine zam mixed Tryz.func21 zz5 [] (fun _=>.inl rfl) ?_;generalize hT:ziu c l=T;rw [ziu,zy0 (fun h=>h c1),zy0 c2] at hT;(conv=>whnf);have pn:=zup c;rw [show ydb c=(zoi c,0) from zy1 c1] at pn
 (refine cP ?_;refine dL pn ?_)
 repeat refine sG ?_
 refine zaf zz3 (zw ?_)
 repeat refine sG ?_
 refine ⟨{x:(zer×List Answer)×List Step×List Step // l=x.2.1++x.2.2/\zqf (zoi c) x.2.1=x.1/\LI x.2.1.length (120*x.2.1.length) x.1.1},fun | ⟨((y,az),A,B),_⟩=>hs 47 [(4,.ptr 4 0),(7,.ptr 7 0),(9,.own 900),(27,yzb l),(28,i64 l.length),(29,i64 A.length)] [(4,.live (.cells 40 xgj)),(7,lnL y),(900,xes az)],fun x=>x.1.2.2.length,⟨((zoi c,[]),[],l),rfl,rfl,zze c1⟩,?_,?_⟩
 . exact (zdi [(4,some 4),(7,some 7),(900,none)])
 rintro ⟨⟨⟨y,az⟩,A,B⟩,k1,k2,k3⟩;dsimp only at k1 k2 k3;(conv=>whnf);cases B with
 | cons x B =>
  have hz:=zbz k1;have hxd:=hb x (zkn k1);have hnx:=ysq (zoi c) A x;rw [k2] at hnx;dsimp only at hnx;have hli:=yio k3 x zz0 zz0;have pd:=ytm y x k3 zz0 zz0 hxd;have hal:az.length=A.length:=by have:=zzl A (zoi c);rw [k2] at this;exact this
  generalize doS y x=D at hnx hli pd;obtain ⟨z,a⟩:=D;dsimp only at hnx hli;refine sT ?_;refine zak k1 rfl (zw ?_)
  (refine cP ?_;refine dL pd ?_)
  refine zaa (c:=((az.map Answer.row).length+1)*16<=140737488355328) zz14 (zw ?_);refine sF ?_;exact ⟨⟨((z,az++[a]),A++[x],B),zan k1,hnx,by rw [zy8,zy50,show 120*(A.length+1)=120*A.length+120 by omega];exact hli⟩,(zcl [(4,some 4),(7,some 7),(900,some 43)] (by repeat' (first | exact z0 | refine z1 ?_ | refine ⟨?_,?_⟩ | ((exact zca (f:=Answer.row) rfl rfl)) | exact z2))),by simp⟩
 | nil =>
  have hz:=zco k1;rw [zy7] at k1;rw [<- k1] at k2;rw [k2] at hT;subst hT;refine sN ?_;exact zal [(0,some 900)] rfl rfl trivial rfl rfl ⟨⟨rfl,.inl ⟨900,rfl,rfl⟩⟩,trivial⟩
theorem yev (c:Config) (l:List Step) (hb:∀ x∈l,x.message.data.length<2 ^ 38) :
 zao Tryz.prog 21 [c.hv,yzb l] zae (.tup [(ziu c l).1.hv,.p (.sl 2 ((ziu c l).2.1.map Answer.row)),i64 (ziu c l).2.2]) zae:=by
 by_cases h:Snd.zpe c≠0\/l.length>200
 . exact yew c l h
 have h:=not_or.1 h;refine zcg Tryz.func21 (yoh c l (Decidable.not_not.1 h.1) h.2 hb) ?_;generalize ziu c l=d;(conv=>whnf)
 rfl
end Ln
namespace Snd
open Ser
def yup:Config:=⟨1,4,40,1,1,3,0⟩
def xgy:Message:=⟨0,false,0,0,[104,101,108,108,111]⟩
end Snd
namespace Ln
open Ser Snd
def stp (k:Int):Step:=⟨k,0,⟨0,false,0,0,[]⟩⟩
def ymx:Step:=⟨1,0,xgy⟩
def xgp:zer:=⟨⟨⟨1,4,40,1,1,3,0⟩,0,[],⟨0,(-1),[5]⟩,[⟨0,0,1,0,0,1,0,0,0,⟨1,0,0,0,0,false,false,[104,101,108,108],[],0,[]⟩⟩,⟨1,0,1,0,0,1,0,0,0,⟨1,1,0,0,1,true,false,[111],[],0,[]⟩⟩],[⟨8,128,0,5,0,3,3⟩],(-1),2,400,[0,1],[1],false,(-1)⟩,⟨⟨1,4,40,1,1,3,0⟩,(-1),[],[],[0],[]⟩,[⟨0,false,[1,11,0,0,0,0,0,0,0,104,101,108,108,1,8,0,1,0,1,0,0,1,111]⟩]⟩
def xgq:zer:=⟨⟨⟨1,4,40,1,1,3,0⟩,0,[],⟨0,(-1),[5]⟩,[⟨0,0,1,0,0,1,0,0,0,⟨1,0,0,0,0,false,false,[104,101,108,108],[],0,[]⟩⟩,⟨1,0,1,0,0,1,0,0,0,⟨1,1,0,0,1,true,false,[111],[],0,[]⟩⟩],[⟨8,128,0,5,0,3,3⟩],(-1),2,400,[0,1],[1],false,(-1)⟩,⟨⟨1,4,40,1,1,3,0⟩,1,[],[],[0],[⟨0,0,false,[104,101,108,108,111]⟩]⟩,[⟨0,true,[2,4,0,1,1,144]⟩]⟩
def xct:zer:=⟨⟨⟨1,4,40,1,1,3,0⟩,0,[],⟨0,(-1),[5]⟩,[],[⟨12,128,0,0,0,0,3⟩],1,2,400,[0,1],[2],false,(-1)⟩,⟨⟨1,4,40,1,1,3,0⟩,1,[],[],[0],[⟨0,0,false,[104,101,108,108,111]⟩]⟩,[]⟩
def xgd:zer:=⟨⟨⟨1,4,40,1,1,3,0⟩,1,[],⟨0,(-1),[5]⟩,[],[⟨12,128,0,0,0,0,3⟩],1,2,400,[0,1],[2],false,(-1)⟩,⟨⟨1,4,40,1,1,3,0⟩,1,[],[],[0],[⟨0,0,false,[104,101,108,108,111]⟩]⟩,[]⟩
theorem xga:doS (zoi yup) ymx=(xgp,⟨0,0⟩):=by kernel_rfl
theorem xgb:doS xgp (stp 2)=(xgq,⟨0,0⟩):=by kernel_rfl
theorem xgc:doS xgq (stp 2)=(xct,⟨0,0⟩):=by kernel_rfl
theorem xee:doS xct (stp 5)=(xgd,⟨0,0⟩):=by kernel_rfl
theorem ykl:zqf (zoi yup) [ymx,stp 2,stp 2]=(xct,[⟨0,0⟩,⟨0,0⟩,⟨0,0⟩]):=by
 simp only [zqf,xga,xgb,xgc]
theorem yyr:LI 3 360 xct:=by
 have:=yld [ymx,stp 2,stp 2] (zze (c:=yup) zz5) zz5 zz5;rw [ykl] at this;exact this
theorem xax:LI 4 480 xgd:=by
 have:=yio yyr (stp 5) zz5 zz5;rw [xee] at this;exact this
theorem yfj {X Y N:zer} {a b d A:Answer} {u:zbw} (p0:zao Tryz.prog 21 [yup.hv,yzb [ymx,stp 2,stp 2]] zae (.tup [X.hv,.p (.sl 2 ([a,b,d].map Answer.row)),i64 0]) zae) (p1:zao Tryz.prog 65 [X.hv,(stp 5).hv] zae (.tup [Y.hv,A.hv]) zae)
 (p2:zao Tryz.prog 54 [yup.hv] zae (.tup [N.hv,i64 0]) zae) (p3:zao Tryz.prog 55 [Y.hv] zae Y.hv zae)
 (e1:d.err=0) (e2:X.receiver.log=[u]) (e3:u.data=[104,101,108,108,111]) (e4:X.sender.fates=[2]) (e5:A.err=0) (e6:Y.sender.clock=1) (e7:N.way=[]) (e8:Y.receiver.log.length=1):zao Tryz.prog 56 [] zae (zbo true) zae:=by
 refine zas mixed Tryz.func56 zz5 ?_;(conv=>whnf)
 ((refine zaa ?_ ?_;(· first | kernel_rfl | exact om);conv=>whnf);try refine sG ?_)
 (refine cP ?_;refine dL p0 ?_)
 (refine cP ?_;refine dL p1 ?_)
 (refine cP ?_;refine dL p2 ?_)
 refine zbx (r:=d.row) zz5 rfl (zw ?_);rw [show (d.err==0)=true by rw [e1];rfl];(conv=>whnf);rw [show (((X.receiver.log.map zbw.row).length:Int)==1)=true by rw [e2];rfl];refine zai rfl (zw ?_);refine zbx (r:=u.row) zz5 (by rw [e2];rfl) (zw ?_);refine zgu rfl (zw ?_);refine zai (by rw [e3];decide +kernel) (zw ?_);rw [show (((X.sender.fates.map fun n:Int=>[pi n]).length:Int)==1)=true by rw [zy3,e4];rfl];refine zai rfl (zw ?_);refine zbx (r:=[pi 2]) zz5 (by rw [e4];rfl) (zw ?_);rw [show (A.err==0)=true by rw [e5];rfl];refine zai rfl (zw ?_);rw [show (Y.sender.clock==1)=true by rw [e6];rfl];refine zai rfl (zw ?_);rw [show (((N.way.map zay.row).length:Int)==0)=true by rw [e7];rfl];refine zai rfl (zw ?_)
 (refine cP ?_;refine dL p3 ?_)
 rw [show (((Y.receiver.log.map zbw.row).length:Int)==1)=true by rw [zy3,e8];rfl]
 try rfl
theorem yeh:zao Tryz.prog 56 [] zae (zbo true) zae:=by
 have p0:=yev yup [ymx,stp 2,stp 2] zz5;have p1:=ytm xct (stp 5) yyr zz5 zz5 zz5;have p2:=zup yup;have p3:=zcy xgd xax;rw [show ydb yup=(zoi yup,0) from zy1 (by decide)] at p2;rw [show ziu yup [ymx,stp 2,stp 2]=(xct,[⟨0,0⟩,⟨0,0⟩,⟨0,0⟩],0) by rw [ziu,zy0 (by decide),zy0 (by decide),ykl]] at p0;rw [xee] at p1;exact yfj p0 p1 p2 p3 rfl rfl rfl rfl rfl rfl rfl rfl
end Ln
namespace Gh
open Ser Snd Ln
abbrev xgn (l:List Answer):HV:=.p (.sl 2 (l.map Answer.row))
abbrev msgs (l:List Message):HV:=.p (.sl 5 (l.map Message.row))
abbrev xgf (l:List Message):zad:=.live (.row 48 5 (l.map Message.row))
theorem yht (l:List Step) (az:List Answer) (hl:az.length=l.length) (hb:l.length<2 ^ 38):zao Tryz.prog 52 [yzb l,xgn az] zae (msgs (ziv l az)) zae:=by
 refine zas mixed Tryz.func52 zz5 ?_;(conv=>whnf);refine ⟨{x:List Step×List Step // l=x.1++x.2},fun | ⟨(A,B),_⟩=>hs 39 [(1,xgn az),(5,.own 900),(8,yzb l),(9,i64 l.length),(10,i64 A.length)] [(900,xgf (ziv A az))],fun x=>x.1.2.length,⟨([],l),rfl⟩,?_,?_⟩
 . exact (zcl [(900,none)] (by repeat' (first | exact z0 | refine z1 ?_ | refine ⟨?_,?_⟩ | ((cases az<;>rfl)) | exact z2)))
 rintro ⟨⟨A,B⟩,h⟩;dsimp only at h;(conv=>whnf);cases B with
 | cons x B =>
  have hz:=zbz h;obtain ⟨a,ha⟩:∃ a,az[A.length]?=some a:=⟨_,zy2 zz0⟩
  have hsn:=zxg x a A az ha;have hlen:=zuv A az;refine sT ?_;refine zak h rfl (zw ?_)
  (try refine sG ?_)
  by_cases c1:x.kind=1
  case neg =>
   rw [yhx,zy0 (fun h=>c1 h.1),zy7] at hsn;refine zaf (zy15.2 c1) (zw ?_)
   (try refine sG ?_)
   refine sF ?_;exact ⟨⟨(A++[x],B),zan h⟩,(zcl [(900,some 900)] zz52),by simp⟩
  refine zai (zy37.2 c1) (zw ?_);refine zai (zy19 zz14) (zw ?_);refine zaj ha rfl (zw ?_);by_cases c2:a.err=0
  case neg =>
   rw [yhx,zy0 (fun h=>c2 h.2),zy7] at hsn;refine zaf (zy15.2 c2) (zw ?_)
   (try refine sG ?_)
   refine sF ?_;exact ⟨⟨(A++[x],B),zan h⟩,(zcl [(900,some 900)] zz52),by simp⟩
  rw [yhx,zy1 ⟨c1,c2⟩] at hsn;refine zai (zy37.2 c2) (zw ?_);refine zaa (c:=(((ziv A az).map Message.row).length+1)*56<=140737488355328) zz14 (zw ?_);refine sF ?_;exact ⟨⟨(A++[x],B),zan h⟩,(zcl [(900,some 36)] (by repeat' (first | exact z0 | refine z1 ?_ | refine ⟨?_,?_⟩ | ((exact zca (f:=Message.row) hsn rfl)) | exact z2))),by simp⟩
 | nil =>
  have hz:=zco h;rw [zy7] at h;subst h
  ((refine xdw ?_;conv=>whnf);try refine sG ?_)
end Gh
namespace Gh
open Ser Snd Ln Jn
def yix (p:Key×Int):Value×List PV:=(.string p.1,[pi p.2])
theorem ycs (a b:Key):ygs (.string a) (.string b)=decide (a=b):=by
 rw [zy136,decide_eq_true_iff];exact MapKept.bytes_beq a b
theorem ztc (s:Key):∀ E:List (Key×Int),(zrm (E.map yix) (.string s)=none/\lkA E s=0)\/zrm (E.map yix) (.string s)=some [pi (lkA E s)]
 | []=>.inl ⟨rfl,rfl⟩
 | (k,v)::r=>by
  rw [zy21,yix,zrm,lkA,ycs];by_cases e:s=k
  . subst e;right;simp
  . rw [zy30 e,zy0 e];exact ztc s r
theorem zom (s:Key) (v:Int):∀ E:List (Key×Int),yxf (E.map yix) (.string s) [pi v]=(upA E s v).map yix
 | []=>rfl
 | (k',v')::r=>by
  rw [zy21,show yix (k',v')=(.string k',[pi v']) from rfl,yxf,zom s v r,upA,ycs];by_cases e:s=k'
  . subst e;simp [yix]
  . rw [zy30 e,zy0 e];rfl
abbrev xgr (E:List (Key×Int)):zad:=.live (.map 9 false (E.map yix))
theorem yfu (T:List Message) (F:List Int) (k:Key):ymk T F k<=F.length:=zy84 (zy55 _ _) (by rw [List.length_zip];omega)
theorem yzt (lg:List zbw) (k:Key):ypq lg k<=lg.length:=zy55 _ _
theorem ymb {α β:Type}:∀ {T:List α} {F:List β} {m:α} {f:β},T[F.length]?=some m->T.zip (F++[f])=T.zip F++[(m,f)]
 | [],F,m,f,h=>by cases F<;>simp at h
 | t::T,[],m,f,h=>by
  have:t=m:=by simpa using h
  subst this;simp
 | t::T,g::F,m,f,h=>by
  rw [zy39,zy145,ymb (by simpa using h),zy145,zy39]
theorem ypp {T:List Message} {F:List Int} {m:Message} (f:Int) (k:Key) (h:T[F.length]?=some m):ymk T (F++[f]) k=ymk T F k+if f=2/\zmu m=k then 1 else 0:=by
 unfold ymk;rw [ymb h,zy71,zy8];by_cases e:f=2/\zmu m=k
 . rw [zy1 e,List.filter_cons_of_pos (by simp [e.1,e.2])];rfl
 . rw [zy0 e,zy148 (by simp only [zy12,zy34];exact e)];rfl
theorem ypr (lg:List zbw) (a:zbw) (k:Key):ypq (lg++[a]) k=ypq lg k+if zve a=k then 1 else 0:=by
 unfold ypq;rw [zy71,zy8];by_cases e:zve a=k
 . rw [zy1 e,List.filter_cons_of_pos (by simpa using e)];rfl
 . rw [zy0 e,zy148 (by simpa using e)];rfl
theorem yrq (A:List (Key×Int)) (e:Key×Int) (B:List (Key×Int)):ycz (A++e::B)=ycz (A++B)+(max e.2 0).toNat*(e.1.size-1):=by
 unfold ycz;simp only [zy41,zy21,List.sum_append,zy80];omega
theorem yzu {T:List Message} {F:List Int} {k:Key} (h:0<ymk T F k):1<=ByteArray.size k:=by
 obtain ⟨w,hw⟩:=List.exists_mem_of_length_pos h;have hw:=(zy40.1 hw).2;simp only [zy12,zy34] at hw;rw [<- hw.2];unfold zmu;rw [ztl];omega
theorem yvk (c:Config) (l:List Step) (hb:∀ x∈l,x.message.data.length<2 ^ 38) (hl:l.length<2 ^ 38):zao Tryz.prog 12 [c.hv,yzb l] zae (zbo true) zae:=by
 refine zas mixed Tryz.func12 zz5 ?_;(conv=>whnf)
 (refine cL ?_;refine dL yeh ?_)
 have pk:=yev c l hb;by_cases c3:Snd.zpe c=0
 case neg =>
  have e1:ziu c l=(noL,[],Snd.zpe c):=zy1 c3;rw [e1] at pk
  (refine cP ?_;refine dL pk ?_)
  refine zai (zy113.2 c3) ?_;(conv=>whnf)
  try rfl
 by_cases c2:l.length>200
 case pos =>
  have e1:ziu c l=(noL,[],5):=by rw [ziu,zy0 (fun h=>h c3),zy1 c2]
  rw [e1] at pk
  ((refine zdv ?_;(conv=>whnf);refine ⟨_,pk,rfl,?_⟩;conv=>whnf);try refine sG ?_)
 have e1:ziu c l=((zqf (zoi c) l).1,(zqf (zoi c) l).2,0):=by rw [ziu,zy0 (fun h=>h c3),zy0 c2]
 rw [e1] at pk;have hpl:=zzl l (zoi c);obtain ⟨H,A0,D,g⟩:=ylc l (xbb c3) zz0 zz0;rw [zy81] at g;have hft:=ylb l (zze c3) (fun f hf=>by simp [zoi,zrb] at hf) zz0 zz0;dsimp only at pk;generalize zqf (zoi c) l=P at pk hpl g hft;obtain ⟨x,az⟩:=P;dsimp only at pk hpl g hft;have pt:=yht l az hpl zz0;have hTl:=zuv l az;have htm:∀ m∈ziv l az,m.data.length<2 ^ 38:=fun m hm=>by obtain ⟨y,y1,rfl⟩:=yez hm;exact hb y y1
 generalize ziv l az=T at g hTl pt htm;have hlen:x.sender.fates.length=T.length:=g.ki.len;have hlog:=g.li.rcv.log;have htot:tot x.receiver.pieces<=24000:=by have:=g.li.rcv.mass;omega
 have ph:=Rcv.yoi x.receiver zz0 zz0;have hheld:=@GL.held _ _ _ _ _ _ _ _ g;have hko:∀ (k:Nat) m,T[k]?=some m->x.sender.fates[k]?=some 3->m.life=0->m.tries≠0:=fun k m h1 h2 h3=>(g.ki.gone k h2 m h1).resolve_left (fun h=>h h3)
 (refine cP ?_;refine dL pk ?_)
 (try refine sG ?_)
 (refine cP ?_;refine dL pt ?_)
 refine zaf (by rw [zy3,zy3,hlen];exact bne_self_eq_false _) (zw ?_);refine ⟨{w:(List Int×List Int)×List (Key×Int) // x.sender.fates=w.1.1++w.1.2/\(w.2.map Prod.fst).Nodup/\∀ k,lkA w.2 k=ymk T w.1.1 k},fun | ⟨((A,B),E),_⟩=>hs 138 [(5,.ptr 5 0),(8,msgs T),(9,.mp 901),(41,ints x.sender.fates),(42,i64 x.sender.fates.length),(43,i64 A.length)] [(5,lnL x),(901,xgr E)],fun w=>w.1.1.2.length,⟨(([],x.sender.fates),[]),rfl,by simp,fun k=>by show (0:Int)=((ymk T [] k:Nat):Int);unfold ymk;rw [List.zip_nil_right];rfl⟩,?_,?_⟩
 . exact (zdi [(5,some 5),(901,some 38)])
 rintro ⟨⟨⟨A,B⟩,E⟩,k1,k2,k3⟩;dsimp only at k1 k2 k3;refine zgh fun Q hQ=>?_
 (conv=>whnf);cases B with
 | cons v B =>
  have gz:=zbz k1;have hv:=hft v (by rw [k1];simp);obtain ⟨m,hm⟩:∃ m,T[A.length]?=some m:=⟨_,zy2 zz0⟩
  have hml:=htm m (zy4 hm);have hfv:x.sender.fates[A.length]?=some v:=by rw [k1];simp
  have hsn:=fun k=>ypp v k hm
  have hle:=yfu T A;refine sT ?_;refine zak (f:=fun n:Int=>[pi n]) k1 rfl (zw ?_);obtain rfl | hv:=(show v=1\/(v=2\/v=3) by omega)
  case inl =>
   conv=>whnf
   (try refine sG ?_)
   refine sF ?_;refine hQ _ _ ?_;conv=>whnf
   exact ⟨⟨((A++[1],B),E),zan k1,k2,fun k=>by rw [k3,hsn,zy0 (fun h=>absurd h.1 (by decide))];rfl⟩,(zdi [(5,some 5),(901,some 901)]),by simp⟩
  obtain rfl | rfl:=hv
  case inr =>
   (conv=>whnf);refine zaj hm rfl (zw ?_);have hk:=hko A.length m hm hfv;by_cases d1:m.life=0
   case pos =>
    have hk:=hk d1;refine zai (zy37.2 d1) (zw ?_);refine zaj hm rfl (zw ?_);refine zaf (zy15.2 hk) (zw ?_);exact yy57
   refine zaf (zy15.2 d1) (zw ?_);exact yy57
  have hk3:=k3 (zmu m);have hk4:=hle (zmu m);have hszk:=ztl m.stream m.data;(conv=>whnf);refine zaj hm rfl (zw ?_);refine zey (zw ?_);refine zgu (bs:=[by8 m.stream]) rfl (zw ?_);refine zaj hm rfl (zw ?_);refine zgu rfl (zw ?_);refine zaa (c:=(⟨[by8 m.stream].toArray⟩:ByteArray).size+(⟨m.data.toArray⟩:ByteArray).size<=9223372036854775807) (by show 1+m.data.toArray.size<=_;simp;omega) (zw ?_);have hf:∃ o,o=zrm (E.map yix) (.string (zmu m))/\(o=none/\lkA E (zmu m)=0\/o=some [pi (lkA E (zmu m))]):=⟨_,rfl,ztc (zmu m) E⟩
  obtain ⟨o,ho,hf⟩:=hf;refine ⟨o,ho,?_⟩;rcases hf with ⟨rfl,hf⟩ | rfl
  case inl =>
   (conv=>whnf);refine zap (z:=0+1) (zbn zz0 zz0) (zw ?_);refine ⟨_,(zom (zmu m) (0+1) E).symm,zw ?_⟩;refine sD ?_
   (try refine sG ?_)
   refine sF ?_;refine hQ _ _ ?_;conv=>whnf
   exact ⟨⟨((A++[2],B),upA E (zmu m) (0+1)),zan k1,zlq _ _ _ k2,fun k=>by
    dsimp only;rw [ztn,hsn];by_cases e:k=zmu m
    . subst e;rw [zy1 rfl,zy1 ⟨rfl,rfl⟩];push_cast;omega
    . rw [zy0 e,zy0 (fun h=>e h.2.symm),k3];rfl⟩,(zdi [(5,some 5),(901,some 901)]),by simp⟩
  case inr =>
   (conv=>whnf);refine zap (z:=(lkA E (zmu m))+1) (zbn zz0 zz0) (zw ?_);refine ⟨_,(zom (zmu m) ((lkA E (zmu m))+1) E).symm,zw ?_⟩;refine sD ?_
   (try refine sG ?_)
   refine sF ?_;refine hQ _ _ ?_;conv=>whnf
   exact ⟨⟨((A++[2],B),upA E (zmu m) ((lkA E (zmu m))+1)),zan k1,zlq _ _ _ k2,fun k=>by
    dsimp only;rw [ztn,hsn];by_cases e:k=zmu m
    . subst e;rw [zy1 rfl,zy1 ⟨rfl,rfl⟩];push_cast;omega
    . rw [zy0 e,zy0 (fun h=>e h.2.symm),k3];rfl⟩,(zdi [(5,some 5),(901,some 901)]),by simp⟩
 | nil =>
 have gz:=zco k1;rw [zy7] at k1;rw [<- k1] at k3;refine sN ?_;refine hQ _ _ ?_;conv=>whnf
 refine ⟨{w:(List zbw×List zbw)×List (Key×Int) // x.receiver.log=w.1.1++w.1.2/\(w.2.map Prod.fst).Nodup/\∀ k,lkA w.2 k=(ymk T x.sender.fates k:Int)-ypq w.1.1 k},fun | ⟨((X,Y),E),_⟩=>hs 138 [(5,.ptr 5 0),(9,.mp 901),(97,.p (.sl 4 (x.receiver.log.map zbw.row))),(98,i64 x.receiver.log.length),(99,i64 X.length)] [(5,lnL x),(901,xgr E)],fun w=>w.1.1.2.length,⟨(([],x.receiver.log),E),rfl,k2,fun k=>by rw [k3];show _=(_:Int)-((ypq [] k:Nat):Int);unfold ypq;simp⟩,?_,?_⟩
 . exact (zdi [(5,some 5),(901,some 901)])
 rintro ⟨⟨⟨X,Y⟩,E2⟩,j1,j2,j3⟩;dsimp only at j1 j2 j3;refine zgh fun Q2 hQ2=>?_
 (conv=>whnf);cases Y with
 | cons a Y =>
  have gz2:=zbz j1;have hsn:=fun k=>ypr X a k
  have hj3:=j3 (zve a);have hl1:=yfu T x.sender.fates (zve a);have hl2:=yzt X (zve a);have hadl:a.data.length<=24000:=by have h6:=Rcv.ykn (l:=x.receiver.log) (a:=a) (by rw [j1];simp);have:=g.li.rcv.mass;omega
  refine sT ?_;refine zak j1 rfl (zw ?_);refine zey (zw ?_);refine zgu (bs:=[by8 a.stream]) rfl (zw ?_);refine zgu rfl (zw ?_);refine zaa (c:=(⟨[by8 a.stream].toArray⟩:ByteArray).size+(⟨a.data.toArray⟩:ByteArray).size<=9223372036854775807) (by show 1+a.data.toArray.size<=_;simp;omega) (zw ?_);have hf:∃ o,o=zrm (E2.map yix) (.string (zve a))/\(o=none/\lkA E2 (zve a)=0\/o=some [pi (lkA E2 (zve a))]):=⟨_,rfl,ztc (zve a) E2⟩
  obtain ⟨o,ho,hf⟩:=hf;refine ⟨o,ho,?_⟩;rcases hf with ⟨rfl,hf⟩ | rfl
  case inl =>
   (conv=>whnf);refine zap (z:=0-1) (zbn zz0 zz0) (zw ?_);refine ⟨_,(zom (zve a) (0-1) E2).symm,zw ?_⟩;refine sF ?_;refine hQ2 _ _ (zw ?_);exact ⟨⟨((X++[a],Y),upA E2 (zve a) (0-1)),zan j1,zlq _ _ _ j2,fun k=>by
    dsimp only;rw [ztn,hsn];by_cases e:k=zve a
    . subst e;rw [zy1 rfl,zy1 rfl];push_cast;omega
    . rw [zy0 e,zy0 (fun h=>e h.symm),j3];rfl⟩,(zdi [(5,some 5),(901,some 901)]),by simp⟩
  case inr =>
   (conv=>whnf);refine zap (z:=(lkA E2 (zve a))-1) (zbn zz0 zz0) (zw ?_);refine ⟨_,(zom (zve a) ((lkA E2 (zve a))-1) E2).symm,zw ?_⟩;refine sF ?_;refine hQ2 _ _ (zw ?_);exact ⟨⟨((X++[a],Y),upA E2 (zve a) ((lkA E2 (zve a))-1)),zan j1,zlq _ _ _ j2,fun k=>by
    dsimp only;rw [ztn,hsn];by_cases e:k=zve a
    . subst e;rw [zy1 rfl,zy1 rfl];push_cast;omega
    . rw [zy0 e,zy0 (fun h=>e h.symm),j3];rfl⟩,(zdi [(5,some 5),(901,some 901)]),by simp⟩
 | nil =>
 have gz2:=zco j1;rw [zy7] at j1;rw [<- j1] at j3;have hmis:=hheld j2 j3;refine sN ?_;refine hQ2 _ _ (zw ?_);refine ⟨{w:(List (Key×Int)×Nat)×Option (Value×List PV) // w.1.2+ycz w.1.1=ycz E2/\∀ e∈w.1.1,e∈E2},fun | ⟨((R,z),cur),_⟩=>hs 138 [(5,.ptr 5 0),(14,i64 z),(117,.ptr 117 0)] [(5,lnL x),(117,.live (.iter 9 false (R.map yix) cur))],fun w=>w.1.1.1.length,⟨((E2,0),none),zy66 _,fun _ h=>h⟩,?_,?_⟩
 . exact (zdi [(5,some 5),(117,some 117)])
 rintro ⟨⟨⟨R,z⟩,cur⟩,q1,q2⟩;dsimp only at q1 q2;refine zgh fun Q3 hQ3=>?_
 (conv=>whnf);refine ⟨fun hl=>?_,fun A1 e B1 hl=>?_⟩
 . have hR:R=[]:=List.map_eq_nil_iff.1 hl
   subst hR;have hz:z=ycz E2:=by rw [<- q1];rfl
   (conv=>whnf);refine hQ3 _ _ (zw ?_)
   (refine cP ?_;refine dLm ph ?_)
   rw [zy19 (show (z:Int)<=(tot x.receiver.pieces:Int) by omega)]
 obtain ⟨R1,R2,rfl,rfl,hl2⟩:=List.map_eq_append_iff.1 hl;obtain ⟨p,R3,rfl,rfl,rfl⟩:=List.map_eq_cons_iff.1 hl2;clear hl hl2;have hmid:=yrq R1 p R3;rw [hmid] at q1;have hpE:=q2 p zz4;have hpv:lkA E2 p.1=p.2:=ygw j2 hpE;rw [j3] at hpv;have hmx:(if (0:Int)>p.2 then 0 else p.2)=((max p.2 0).toNat:Int):=by split<;>omega
 have hone:0<(max p.2 0).toNat->1<=p.1.size:=fun h=>yzu (T:=T) (F:=x.sender.fates) zz0
 have hmb:(max p.2 0).toNat<=200:=by have:=yfu T x.sender.fates p.1;omega
 generalize (max p.2 0).toNat=mx at hone q1 hmx hmb;generalize hw0:p.1.size-1=w at q1;(conv=>whnf);refine ⟨.string p.1,.v (.int .i64 p.2),rfl,rfl,zw ?_⟩;refine ⟨{j:Nat // j<=mx},fun | ⟨j,_⟩=>hs 138 [(5,.ptr 5 0),(14,i64 (z+j*w:Nat)),(15,.p (.v (.string p.1))),(117,.ptr 117 0),(124,i64 mx),(125,i64 j)] [(5,lnL x),(117,.live (.iter 9 false ((R1++R3).map yix) (some (yix p))))],fun j=>mx-j.1,⟨0,zy96 _⟩,?_,?_⟩
 . exact (zcl [(5,some 5),(117,some 117)] (by repeat' (first | exact z0 | refine z1 ?_ | refine ⟨?_,?_⟩ | ((rw [hmx])) | ((rw [zy41])) | ((rw [Nat.zero_mul,zy83])) | exact z2)))
 rintro ⟨j,hj⟩;refine zgh fun Q4 hQ4=>?_
 (conv=>whnf);have hjw:j*w<=mx*w:=zy54 w hj;by_cases c5:j<mx
 case pos =>
  have h1:=hone zz0;have h2:(j+1)*w<=mx*w:=zy54 w c5;have h3:(j+1)*w=j*w+w:=Nat.succ_mul j w;refine zai (zy19 zz0) (zw ?_);refine zap (z:=((z+j*w:Nat):Int)+(p.1.size:Int)) (zbn zz0 zz0) (zw ?_);refine zap (z:=((z+j*w:Nat):Int)+(p.1.size:Int)-1) (zbn zz0 zz0) (zw ?_);refine sF ?_;refine hQ4 _ _ (zw ?_);exact ⟨⟨j+1,c5⟩,(zcl [(5,some 5),(117,some 117)] zz48),by show mx-(j+1)<mx-j;omega⟩
 have hjm:j=mx:=by omega
 subst hjm;refine zaf (zy30 zz0) (zw ?_);refine hQ4 _ _ (zw ?_);refine hQ3 _ _ (zw ?_);exact ⟨⟨((R1++R3,z+j*w),some (yix p)),by dsimp only;omega,fun e he=>q2 e (by
  rcases zy11.1 he with h | h
  . exact zy61 _ h
  . exact zy158 _ (zy103 _ h))⟩,(zdi [(5,some 5),(117,some 117)]),by simp⟩
end Gh
end Go.HL
