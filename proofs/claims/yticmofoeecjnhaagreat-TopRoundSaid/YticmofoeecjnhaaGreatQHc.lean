/- Walks, contracts and laws of the law's functions: part 3. No condition. -/
import Derived.Test.YticmofoeecjnhaaGreatQHb
import Derived.Test.YticmofoeecjnhaaGreatRows
import Derived.Test.YticmofoeecjnhaaGreatProg
open Go.Proofs
set_option maxHeartbeats 32000000
set_option maxRecDepth 100000
set_option linter.unusedSimpArgs false
theorem yy24 {P:Prop} (h:P:=by
 have hre:ren []=zqg:=by funext i;rfl
 refine ⟨_,.zie (B:=[]) (F:=F) (us:=us) (ms:=args.map fun _=>true) (args1:=a) (args':=a) (H':=zae) (r':=r') (H'':=lk .free L'')
  ⟨yab (hv.loc H (fun _ _=>rfl) _ ⟨rfl,rfl⟩),h1,by rw [hre];exact hv.noid,by rw [hre];exact ziv a hv.noid,fun _=>.inl rfl,by simp,by simp,by simp,zoh h6,zeq h7.1,zeq h7.2,zoa h8,h9,rfl,by rw [ybl];rfl⟩,h10⟩):P:=h
theorem yy52 {P:Prop} (h:P:=by
 simp only [Cell.okWide,Cell.ok,hu] at hok;obtain ⟨b,rfl,_⟩:=h2;cases v<;>try exact hok.elim
 exact one rfl rfl):P:=h
theorem yy27 {P:Prop} (h:P:=by
 refine zam [(1000,some 1000)] rfl rfl ⟨rfl,trivial⟩ rfl rfl ⟨⟨rfl,.inl ⟨1000,rfl,rfl⟩⟩,trivial⟩):P:=h
theorem yy72 {P:Prop} (h:P:=by
 refine sN ?_;refine zam [(1000,some 1000)] rfl rfl ⟨rfl,trivial⟩ rfl rfl ⟨⟨rfl,.inl ⟨1000,rfl,?_⟩⟩,trivial⟩;exact zaq (by rw [hL',hmrg,gw];simp)):P:=h
theorem yy83 {P:Prop} (h:P:=by
 try refine sG ?_
 exact ⟨⟨(i,(i+j) / 2),g1,by dsimp only;omega,by dsimp only;omega⟩,(zcx [(1000,some 1000)]),by dsimp only;omega⟩):P:=h
theorem yy91 {P:Prop} (h:P:=by
 try refine sG ?_
 refine sF ?_;exact ⟨⟨((i+j) / 2+1,j),c2,g2,g3⟩,(zbu [(1000,some 1000)] zz2),by dsimp only;omega⟩):P:=h
theorem yy5 {P:Prop} (h:P:=by
 (conv=>whnf);refine zah (fun h=>?_) (fun h=>?_)
 . have hlt:k<q.length:=by simpa using h
   (conv=>whnf);refine zbz (r:=(q[k]).row) zz4 zz63 ?_;(conv=>whnf);refine zfu (zw ?_);refine ⟨_,hg q[k],rfl,zw ?_⟩;rw [zy26 hlt] at hi;simp only [zbq] at hi;refine zah (fun h=>?_) (fun h=>?_)
   . conv=>whnf
     rw [zy1 h] at hi;rw [<- hi]
   . conv=>whnf
     rw [zy0 (by rw [h];decide)] at hi;refine zat (zbh zz0 zz0) ?_;(conv=>whnf);exact ⟨⟨k+1,hlt,hi⟩,(zdx []),by dsimp only;omega⟩
 . conv=>whnf
   have hge:q.length<=k:=by simpa using h
   rw [zy31 hge] at hi;rw [<- hi];rfl):P:=h
theorem yy9 {P:Prop} (h:P:=by
 (conv=>whnf);refine zam [(0,some 7)] rfl rfl trivial rfl rfl ⟨⟨rfl,.inl ⟨7,rfl,?_⟩⟩,trivial⟩
 rfl):P:=h
theorem yy14 {P:Prop} (h:P:=by
 refine zam [(0,none)] rfl rfl trivial rfl rfl ⟨⟨rfl,.inr ⟨rfl,hn c⟩⟩,trivial⟩):P:=h
theorem yy64 {P:Prop} (h:P:=by
 conv=>whnf
 try refine sG ?_
 refine sF ?_;refine ⟨⟨((A++[v],B),K,G++[v]),by rw [h];simp,by rw [zy53,<- hK];simp [hv],by simp,by simp;omega⟩,(zbu [(1000,some 1000)] zz14),by simp⟩):P:=h
theorem yy70 {P:Prop} (h:P:=by
 rw [h1];(conv=>whnf)
 try refine sG ?_
 refine zam [(0,some 1000),(1000,some 1000)] rfl rfl ⟨rfl,trivial⟩ rfl rfl ⟨rfl,⟨rfl,.inl ⟨1000,rfl,rfl⟩⟩,trivial⟩):P:=h
theorem yy33 {P:Prop} (h:P:=by
 (conv=>whnf);refine sF ?_;exact ⟨⟨(a++[s],b),zar h⟩,(zcr [(900,some 900)] zz23),by simp⟩):P:=h
theorem yy42 {P:Prop} (h:P:=by
 refine zan mixed Tryz.func130 zz5 [1000,1001,1002,1003,1004,1005,1006,1007] zbi ?_;(conv=>whnf);by_cases c1:life>0
 . refine sT ?_
   refine sR ?_
   try refine sT ?_
   (exact zdc (pK8 []) zz17)
 . refine sN ?_
   try refine sN ?_
   (exact zdc (pK8 []) zz17)):P:=h
theorem yy69 {P:Prop} (h:P:=by
 (conv=>whnf);refine zam [(1000,some 1000),(0,some 7)] rfl rfl ⟨rfl,trivial⟩ rfl rfl ⟨⟨rfl,.inl ⟨1000,rfl,rfl⟩⟩,⟨rfl,.inl ⟨7,rfl,?_⟩⟩,trivial⟩
 rfl):P:=h
theorem yy78 {P:Prop} (h:P:=by
 refine zam [(1000,some 1000),(0,none)] rfl rfl ⟨rfl,trivial⟩ rfl rfl ⟨⟨rfl,.inl ⟨1000,rfl,rfl⟩⟩,⟨rfl,.inr ⟨rfl,hn c⟩⟩,trivial⟩):P:=h
theorem yy18 {P:Prop} (h:P:=by
 rintro ⟨⟨A,B⟩,h⟩;dsimp only at h;(conv=>whnf);cases B with
 | cons p B =>
  have hz:=zcf h;refine sT ?_
  (refine cL ?_;refine dL (Sco.znt s.out A.length h3) ?_)
  refine sOm ?_;refine zal (a:=A.mapIdx (flP s.out)) (b:=B) (s:=p) rfl zz4 (zw ?_);refine sD ?_;refine sF ?_;exact ⟨⟨(A++[p],B),zar h⟩,(zbu (pK8 []) zz27),by simp⟩
 | nil =>
  have hz:=zcw h;rw [zy8] at h;refine sN ?_
  (exact zdc (pK8 [(0,some 1001),(1,some 1002),(2,some 1003),(3,some 1004),(4,some 1005),(5,some 1006)]) zz26)):P:=h
theorem yy7 {P:Prop} (h:P:=by
 have hz:=zcf k1;have zcz:(A++[m]).foldl (zfc id) {s with fates:=s.fates.set id 3}=zfc id (zjk s id o n) m:=by rw [zy77,k2];rfl
 refine sT ?_;refine zaa (by simp [zjk];omega) (zw ?_);refine zal k1 rfl (zw ?_);by_cases c1:m.id=id
 case neg =>
  refine zag zz51 (zw ?_)
  repeat refine sG ?_
  refine sF ?_;rw [zfc,zy0 (by intro h;exact c1 h.1)] at zcz;exact ⟨⟨((A++[m],B),o,n),zar k1,zcz,by simp;omega,k4⟩,(zcx (pK8 ((900,some 900)::[(3,some 3)]))),by simp⟩
 refine zai zz51 ?_;conv=>whnf
 by_cases c2:m.parts>0
 case neg =>
  refine zag zz45 (zw ?_)
  repeat refine sG ?_
  refine sF ?_;rw [zfc,zy0 (by intro h;exact c2 h.2)] at zcz;exact ⟨⟨((A++[m],B),o,n),zar k1,zcz,by simp;omega,k4⟩,(zcx (pK8 ((900,some 900)::[(3,some 3)]))),by simp⟩
 refine zai zz45 ?_;conv=>whnf
 repeat refine sG ?_
 rw [zfc,zy1 ⟨c1,c2⟩] at zcz
 (refine cL ?_;refine dL (zcv n) ?_)
 (refine cL ?_;refine dL (zcv m.mid) ?_)
 refine zaa (c:=((o.map zbr.row).length+1)*200<=140737488355328) zz15 (zw ?_);refine sD ?_;refine sR ?_;refine sF ?_;refine ⟨⟨((A++[m],B),o++[zry n m],W (n+1)),zar k1,zcz,by simp;omega,by rw [Sco.zjz,k4];simp [Sco.total,zry]⟩,(zbu (pK8 ((900,some 64)::[(3,some 3)])) zz39),by simp⟩):P:=h
theorem yy31 {P:Prop} (h:P:=by
 (exact zdc (pK8 [(0,some 910),(1,some 911),(2,some 912),(3,some 913),(4,some 914),(5,some 915)]) zz11)):P:=h
theorem yy34 {P:Prop} (h:P:=by
 refine sOm ?_;refine zaj hv zz0 (zw ?_);refine zaj hk rfl (zw ?_);refine sOm ?_;refine zaj hv zz0 (zw ?_);refine sR ?_;refine sOm ?_;refine zaj hv zz0 (zw ?_)
 repeat refine sG ?_
 refine zbt rfl zz3 (zw ?_);have hms2:(zhx s k m).mids=_:=hms;rw [hat] at hms2
 (exact zdc (pK9 []) zz13)):P:=h
theorem yy35 {P:Prop} (h:P:=by
 refine sOm ?_;refine zaj hv zz0 (zw ?_);refine zaj hk rfl (zw ?_);refine sOm ?_;refine zaj hv zz0 (zw ?_);refine sR ?_;refine sOm ?_;refine zaj hv zz0 (zw ?_)
 repeat refine sG ?_
 refine zbt rfl zz3 (zw ?_);have hms2:(zhx s k m).mids=_:=hms;rw [hat] at hms2
 (exact zdc (zhf []) zz13)):P:=h
namespace Go.HL
abbrev i64 (n:Int):HV:=.p (.v (.int .i64 n))
abbrev W (z:Int):Int:=IntKind.i64.wrap z
theorem zah {b:Bool} {A B:Prop} (h1:b=true->A) (h2:b=false->B):hif b A B:=by cases b<;>simp_all [hif]
theorem zai {b:Bool} {A B:Prop} (h:b=true) (ha:A):hif b A B:=by subst h;exact ha
theorem zag {b:Bool} {A B:Prop} (h:b=false) (hb:B):hif b A B:=by subst h;exact hb
theorem zcp {k:IntKind} {z:Int} {K:Int->Prop} (h:K (k.wrap z)):zms k z K:=⟨_,rfl,h⟩
theorem zat {k:IntKind} {z:Int} {K:Int->Prop} (hz:k.wrap z=z) (h:K z):zms k z K:=⟨z,hz.symm,h⟩
theorem zaa {c k:Prop} (h:c) (hk:k):znc c k:=⟨h,hk⟩
theorem zbe {P:Program} {s0:HS} {all:Array Oper} {labs:List Lab} {k:Prop} (h:zkf all labs=true) (hk:k):yrr P s0 all labs k:=⟨.inl h,hk⟩
theorem zin (ex:List Nat) {P:Program} {s0:HS} {all:Array Oper} {labs:List Lab} {k:Prop} (h:zjo ex all labs=true) (h2:xbp (zyg P s0 all.toList labs) ex) (hk:k):yrr P s0 all labs k:=⟨.inr ⟨ex,h,h2⟩,hk⟩
theorem zbz {rows:List (List PV)} {i:Int} {K:List PV->Prop} {r:List PV} (h0:0<=i) (h:rows[i.toNat]?=some r) (hk:K r):zvy rows i K:=⟨r,h0,h,hk⟩
theorem ycz {rows:List (List PV)} {K:List UInt8->Prop} {bs:List UInt8} (h:rows=bs.map zdu) (hk:K bs):yku rows K:=⟨bs,h,hk⟩
theorem zbh {z:Int} (h1:-9223372036854775808<=z) (h2:z<=9223372036854775807):W z=z:=by
 unfold W IntKind.wrap;simp [IntKind.bits,IntKind.signed];omega
section
variable {P:Program}
theorem zbm {f:FuncId} {args:List HV} {d:Nat} {H:Nat->zad} {K:Res->Prop} (h:zgh H args fun a us=>zjb (normArgs P (yai P f) a) fun a=>∃ r,zao P f a zae r zae/\yff r=true/\K ⟨r,[],us.map (·.1)⟩) :
 yda (CR P) f args d H K:=by
 obtain ⟨a,us,h,hv⟩:=zdz _ h;rw [zfx] at h;obtain ⟨r,h1,h2,h3⟩:=h;replace h1:=h1.args fun _ _ _ _ hx=>hx.normArgs _
 exact ⟨_,.lend ⟨hv.loc H (fun _ _=>rfl) _ ⟨rfl,rfl⟩,h1,h2,rfl,rfl⟩,h3⟩
theorem yab {H:Nat->zad}:∀ {xs:List HV} {K:List HV->List (Nat×zad)->Prop},zgh H xs K->zkw H (xs.map fun _=>true) xs K
 | [],K,h=>by simpa only [zy80,zkw,zgh] using h
 | x::xs,K,h=>by
  simp only [zy24,zkw];simp only [zgh] at h;obtain ⟨y,u,h1,hv⟩:=zjp x h;exact hv.loc H (fun _ _=>rfl) _ (yab h1)
theorem zel {f:FuncId} {args:List HV} {d:Nat} {H:Nat->zad} {K:Res->Prop} (h:zgh H args fun a us=>zjb (normArgs P (yai P f) a) fun a=>∃ r,zao P f a zae r zae/\zih zqg r=true/\K ⟨r,us,[]⟩) :
 yda (CR P) f args d H K:=by
 obtain ⟨a,us,h,hv⟩:=zdz _ h;rw [zfx] at h;obtain ⟨r,h1,h2,h3⟩:=h;replace h1:=h1.args fun _ _ _ _ hx=>hx.normArgs _
 have hre:ren []=zqg:=by funext i;rfl
 refine ⟨_,.zie (B:=[]) (F:=[]) (us:=us) (ms:=args.map fun _=>true) (args1:=a) (args':=a) (H':=zae) (r':=r) (H'':=zae)
  ⟨yab (hv.loc H (fun _ _=>rfl) _ ⟨rfl,rfl⟩),h1,by rw [hre];exact hv.noid,by rw [hre];exact ziv a hv.noid,fun _=>.inl rfl,by simp,by simp,by simp,by simp,by simp,by simp,by simp,by
   show zih (ren []) r=true;rw [hre];exact h2,by show r=rn (ren []) r;rw [hre];exact (yan r h2).symm,by simp⟩,h3⟩
end
def ywc (σ:Ren) (s:HS):List (Nat×HV)->Prop
 | []=>True
 | (i,x)::r=>(zih σ x=true/\rn σ x=s.slot i)/\ywc σ s r
def ydh (σ:Ren) (s:HS):List (Nat×zad)->Prop
 | []=>True
 | (id,b)::r=>(match b with
  | .free=>False
  | .dead=>(σ id).isSome=true
  | .live b=>znr σ b=true/\((∃ j,σ id=some (some j)/\s.heap j=.live (rnB σ b))\/(σ id=some none/\xgn b))
  | .ro b=>znr σ b=true/\∃ j,σ id=some (some j)/\(s.heap j=.live (rnB σ b)\/s.heap j=.ro (rnB σ b)))/\ydh σ s r
def zqn (σ:Ren):List Nat->Prop
 | []=>True
 | i::r=>σ i=some (some i)/\zqn σ r
def yzr:List (Nat×Option Nat)->List Nat
 | []=>[]
 | (_,some j)::r=>j::yzr r
 | (_,none)::r=>yzr r
def zex:List Nat->Bool
 | []=>true
 | x::r=>!(r.any (Nat.beq x))&&zex r
def zhu (L:List (Nat×zad)):List (Nat×Option Nat)->Bool
 | []=>true
 | (i,_)::r=>L.any (fun p=>Nat.beq i p.1)&&zhu L r
theorem zzy {α:Type} {d:α}:∀ {l:List (Nat×α)} {i:Nat},lk d l i=d\/∃ x,(i,x)∈l/\lk d l i=x
 | [],i=>.inl rfl
 | (j,x)::r,i=>by
  simp only [lk];cases hb:Nat.beq i j with
  | true=>have:=zy4 hb;subst this;exact .inr ⟨x,by simp,rfl⟩
  | false =>
   rcases zzy (d:=d) (l:=r) (i:=i) with h | ⟨y,h1,h2⟩
   . exact .inl h
   . exact .inr ⟨y,by simp [h1],h2⟩
theorem ymt {σ:Ren} {s:HS}:∀ {l:List (Nat×HV)} {i:Nat} {x:HV},ywc σ s l->(i,x)∈l->zih σ x=true/\rn σ x=s.slot i
 | (j,y)::r,i,x,h,hm=>by
  simp only [ywc] at h;cases hm with
  | head=>exact h.1
  | tail _ hm=>exact ymt h.2 hm
theorem zuh {l:List (Nat×Option Nat)} {i:Nat} {o:Option Nat} (h:lkN l i=some o):(i,o)∈l:=by
 induction l with
 | nil=>cases h
 | cons p l ih =>
  obtain ⟨a,b⟩:=p;simp only [lkN] at h;cases hb:Nat.beq i a with
  | true=>rw [hb] at h;cases h;have:=zy4 hb;subst this;simp
  | false=>rw [hb] at h;simp [ih h]
theorem zxi {L:List (Nat×zad)}:∀ {l:List (Nat×Option Nat)} {i:Nat} {o:Option Nat},zhu L l=true->(i,o)∈l->∃ b,(i,b)∈L
 | (j,y)::r,i,o,h,hm=>by
  simp only [zhu,zy13] at h;cases hm with
  | head =>
   obtain ⟨p,hp,hb⟩:=zy103.1 h.1;have:=zy4 hb;subst this;exact ⟨p.2,hp⟩
  | tail _ hm=>exact zxi h.2 hm
theorem ysu {α:Type} {d:α}:∀ {l:List (Nat×α)} {i:Nat},(∀ x,(i,x)∉l)->lk d l i=d
 | [],i,_=>rfl
 | (j,x)::r,i,h=>by
  simp only [lk];cases hb:Nat.beq i j with
  | true=>have:=zy4 hb;subst this;exact absurd zz4 (h x)
  | false=>exact ysu fun y hy=>h y zz47
theorem ylb {σ:Ren} {s:HS}:∀ {l:List (Nat×zad)} {i:Nat} {x:zad},ydh σ s l->(i,x)∈l->ydh σ s [(i,x)]
 | (j,y)::r,i,x,h,hm=>by
  simp only [ydh] at h;cases hm with
  | head=>exact ⟨h.1,trivial⟩
  | tail _ hm=>exact ylb h.2 hm
theorem ybg:∀ {l:List (Nat×Option Nat)},zex (yzr l)=true->∀ {i i' j:Nat},(i,some j)∈l->(i',some j)∈l->i=i'
 | [],_,i,i',j,h,_=>by cases h
 | (a,none)::r,hn,i,i',j,h,h'=>by
  cases h with
  | tail _ h=>cases h' with
   | tail _ h'=>exact ybg (l:=r) hn h h'
 | (a,some b)::r,hn,i,i',j,h,h'=>by
  simp only [yzr,zex,zy13,zy54] at hn;have hin:∀ {r:List (Nat×Option Nat)} {i j:Nat},(i,some j)∈r->j∈yzr r:=by
   intro r
   induction r with
   | nil=>intro i j h;cases h
   | cons p r ih =>
    intro i j h;obtain ⟨a,o⟩:=p;cases h with
    | head=>simp [yzr]
    | tail _ h=>cases o<;>simp [yzr,ih h]
  have hno:∀ {i:Nat},(i,some b)∉r:=by
   intro i hi;have:=zy120.1 hn.1 b (hin hi);simp at this
  cases h with
  | head=>cases h' with
   | head=>rfl
   | tail _ h'=>exact absurd h' hno
  | tail _ h=>cases h' with
   | head=>exact absurd h hno
   | tail _ h'=>exact ybg hn.2 h h'
theorem yky {s:HS} {heap:List (Nat×zad)} {pins:List Nat} (l:List (Nat×Option Nat)) (h1:zhu heap l=true) (_:zqn (lkN l) pins) (h5:ydh (lkN l) s heap):∀ id,match lk zad.free heap id with
 | .free=>lkN l id=none
 | .dead=>True
 | .live b=>znr (lkN l) b=true/\((∃ j,lkN l id=some (some j)/\s.heap j=.live (rnB (lkN l) b))\/(lkN l id=some none/\xgn b))
 | .ro b=>znr (lkN l) b=true/\∃ j,lkN l id=some (some j)/\(s.heap j=.live (rnB (lkN l) b)\/s.heap j=.ro (rnB (lkN l) b)):=by
 intro id;by_cases hm:∃ x,(id,x)∈heap
 . rcases zzy (d:=zad.free) (l:=heap) (i:=id) with h | ⟨x,hx,h⟩
   . exfalso
     obtain ⟨x,hx⟩:=hm;have gen:∀ {l:List (Nat×zad)} {σ:Ren},ydh σ s l->(∃ x,(id,x)∈l)->lk .free l id≠.free:=by
      intro l
      induction l with
      | nil=>intro σ _ ⟨x,hx⟩;cases hx
      | cons p l ih =>
       obtain ⟨a,y⟩:=p;intro σ h ⟨x,hx⟩;simp only [lk];cases hb:Nat.beq id a with
       | true =>
        show y≠.free;intro hy;subst hy;exact h.1
       | false =>
        refine ih h.2 ?_;cases hx with
        | head=>simp at hb
        | tail _ hx=>exact ⟨x,hx⟩
     exact gen h5 ⟨x,hx⟩ h
   . rw [h]
     have:=(ylb h5 hx).1;cases x<;>simp only at this ⊢
     . exact this
     . exact this
 . rw [ysu fun x hx=>hm ⟨x,hx⟩]
   show lkN l id=none;cases ho:lkN l id with
   | none=>rfl
   | some o=>exact absurd (zxi h1 (zuh ho)) hm
theorem ykz {pins:List Nat} (l:List (Nat×Option Nat)) (h3:zqn (lkN l) pins):∀ id∈pins,lkN l id=some (some id):=by
 intro id hid;have gen:∀ {r:List Nat},zqn (lkN l) r->id∈r->lkN l id=some (some id):=by
  intro r
  induction r with
  | nil=>intro _ h;cases h
  | cons a r ih =>
   intro h hm;simp only [zqn] at h;cases hm with
   | head=>exact h.1
   | tail _ hm=>exact ih h.2 hm
 exact gen h3 hid
def ycg (heap:List (Nat×zad)) (i:Nat):Bool:=match lk .free heap i with
 | .dead=>true
 | _=>false
def zly (heap:List (Nat×zad)):List (Nat×Option Nat)->List Nat
 | []=>[]
 | (i,some j)::r=>bif ycg heap i then zly heap r else j::zly heap r
 | (_,none)::r=>zly heap r
theorem yna {heap:List (Nat×zad)}:∀ (l:List (Nat×Option Nat)),zly heap l=yzr (l.filter fun p=>!ycg heap p.1)
 | []=>rfl
 | (i,o)::r=>by
  cases hd:ycg heap i<;>cases o<;>simp [zly,yzr,zy58,hd,yna r]
theorem ygf {heap:List (Nat×zad)} {l:List (Nat×Option Nat)} (h:zex (zly heap l)=true) {i i' j:Nat} (h1:(i,some j)∈l) (h2:(i',some j)∈l) (d1:lk .free heap i≠.dead) (d2:lk .free heap i'≠.dead):i=i':=by
 rw [yna] at h;have hd:∀ k,lk .free heap k≠.dead->ycg heap k=false:=by
  intro k hk;unfold ycg;split
  . rename_i he;exact absurd he hk
  . rfl
 exact ybg h (zy91.2 ⟨h1,by simp [hd i d1]⟩) (zy91.2 ⟨h2,by simp [hd i' d2]⟩)
theorem xdf {s:HS} {pins:List Nat} {n:Nat} {slots:List (Nat×HV)} {heap:List (Nat×zad)} (l:List (Nat×Option Nat)) (hn:n=s.n) (hp:pins=s.pins) (h1:zhu heap l=true) (h2:zex (zly heap l)=true)
 (h3:zqn (lkN l) pins) (h4:ywc (lkN l) s slots) (h5:ydh (lkN l) s heap):xhf s (hsP pins n slots heap):=by
 refine ⟨hn,hp,lkN l,fun i=>?_,yky l h1 h3 h5,fun id id' b j hb hd hj hj'=>ygf h2 (zuh hj) (zuh hj') zz60 hd,fun id hid=>ykz l h3 id (hp ▸ hid)⟩;rcases zzy (d:=HV.any) (l:=slots) (i:=i) with h | ⟨x,hx,h⟩
 . exact .inl h
 . right
   show zih (lkN l) (lk .any slots i)=true/\rn (lkN l) (lk .any slots i)=s.slot i;rw [h];exact ymt h4 hx
theorem yry {s:HS} {pins:List Nat} {n:Nat} {slots:List (Nat×HV)} {heap:List (Nat×zad)} (l:List (Nat×Option Nat)) (hn:n=s.n) (hp:pins=s.pins) (h1:zhu heap l=true) (h2:zex (zly heap l)=true)
 (h3:zqn (lkN l) pins) (h4:ywc (lkN l) s slots) (h5:ydh (lkN l) s heap):HLe s (hsP pins n slots heap):=⟨[],by rw [yri];exact xdf l hn hp h1 h2 h3 h4 h5⟩
theorem zdo {s:HS} {n:Nat} {slots:List (Nat×HV)} {heap:List (Nat×zad)} (l:List (Nat×Option Nat)) (hn:n=s.n) (hp:[]=s.pins) (h1:zhu heap l=true) (h2:zex (zly heap l)=true)
 (h4:ywc (lkN l) s slots) (h5:ydh (lkN l) s heap):HLe s (hs n slots heap):=yry l hn hp h1 h2 trivial h4 h5
end Go.HL
namespace Go.HL
section
variable {P:Program}
def yrg (H:Nat->zad):List (Nat×Nat)->Prop
 | []=>True
 | p::r=>(Nat.blt p.1 pin=true/\H p.2=.free)/\yrg H r
def xdb (σ:Ren) (H' H:Nat->zad):List (Nat×Nat)->Prop
 | []=>True
 | p::r=>(Nat.ble pin p.1=true/\∃ b,znr σ b=true/\((H' p.1=.live b/\H p.2=.live (rnB σ b))\/(H' p.1=.ro b/\H p.2=.ro (rnB σ b))))/\xdb σ H' H r
def yni (σ:Ren) (H'':Nat->zad):List (Nat×Nat)->Bool
 | []=>true
 | p::r=>xej σ (H'' p.1)&&yni σ H'' r
def xfn (σ:Ren) (H'':Nat->zad):List (Nat×Nat)->List (Nat×zad)
 | []=>[]
 | p::r=>(p.2,rnS σ (H'' p.1))::xfn σ H'' r
def yxv (B:List (Nat×Nat)):List (Nat×zad)->Bool
 | []=>true
 | p::r=>B.any (fun q=>Nat.beq q.1 p.1)&&yxv B r
theorem ybl {σ:Ren} {H'':Nat->zad}:∀ {L:List (Nat×Nat)},xfn σ H'' L=L.map fun p=>(p.2,rnS σ (H'' p.1))
 | []=>rfl
 | p::r=>by simp only [xfn,zy24,ybl]
theorem zoh {H:Nat->zad}:∀ {L:List (Nat×Nat)},yrg H L->∀ p∈L,p.1<pin/\H p.2=.free
 | q::r,h,p,hp=>by
  rcases zy18.1 hp with rfl | hp
  . exact ⟨by have:=h.1.1;simp only [Nat.blt,Nat.ble_eq] at this;exact this,h.1.2⟩
  . exact zoh h.2 p hp
theorem ycy {σ:Ren} {H' H:Nat->zad}:∀ {L:List (Nat×Nat)},xdb σ H' H L->∀ p∈L,pin<=p.1/\∃ b,znr σ b=true/\((H' p.1=.live b/\H p.2=.live (rnB σ b))\/(H' p.1=.ro b/\H p.2=.ro (rnB σ b)))
 | q::r,h,p,hp=>by
  rcases zy18.1 hp with rfl | hp
  . exact ⟨zy11 h.1.1,h.1.2⟩
  . exact ycy h.2 p hp
theorem zoa {σ:Ren} {H'':Nat->zad}:∀ {L:List (Nat×Nat)},yni σ H'' L=true->∀ p∈L,xej σ (H'' p.1)=true
 | q::r,h,p,hp=>by
  simp only [yni,zy13] at h;rcases zy18.1 hp with rfl | hp
  . exact h.1
  . exact zoa h.2 p hp
theorem zeq:∀ {l:List Nat},zex l=true->l.Nodup
 | [],_=>by simp
 | x::r,h=>by
  simp only [zex,zy13,zy54] at h;refine zy126.2 ⟨fun hm=>?_,zeq h.2⟩;have:=zy120.1 h.1 x hm;simp at this
theorem zxh {B:List (Nat×Nat)}:∀ {L:List (Nat×zad)},yxv B L=true->∀ i,lk .free L i=.free\/∃ p∈B,p.1=i
 | [],_,i=>.inl rfl
 | q::r,h,i=>by
  simp only [yxv,zy13] at h;obtain ⟨a,b⟩:=q;simp only [lk];cases hb:Nat.beq i a with
  | true =>
   have:=zy4 hb;subst this;obtain ⟨p,hp,he⟩:=zy103.1 h.1;exact .inr ⟨p,hp,zy4 he⟩
  | false=>exact zxh h.2 i
def xif (P:Program) (f:FuncId) (H:Nat->zad) (B F:List (Nat×Nat)) (a1:List HV) (us:List (Nat×zad)) (K:Res->Prop):Prop :=
 ∃ args' L' r' L'',zao P f args' (lk .free L') r' (lk .free L'')/\(zns (ren B) args'=true/\rnL (ren B) args'=a1/\yxv B L'=true/\xdb (ren B) (lk .free L') (zea H us) B/\yrg H F /\
  (zex (B.map (·.1))&&zex (B.map (·.2))&&zex (F.map (·.1))&&zex (F.map (·.2)))=true/\yni (ren (B++F)) (lk .free L'') (B++F)=true/\zih (ren (B++F)) r'=true) /\
  K ⟨rn (ren (B++F)) r',us++xfn (ren (B++F)) (lk .free L'') (B++F),[]⟩
theorem zac (ms:List Bool) (B F:List (Nat×Nat)) {f:FuncId} {args:List HV} {d:Nat} {H:Nat->zad} {K:Res->Prop} (h:zkw H ms args fun a us=>zjb a fun a=>xif P f H B F a us K) :
 yda (CR P) f args d H K:=by
 have h:=zhk _ _ h;obtain ⟨a,us,hg,hv⟩:=h;rw [zfx] at hg;obtain ⟨args',L',r',L'',h1,⟨h2,h3,h4,h5,h6,h7,h8,h9⟩,h10⟩:=hg;simp only [zy13] at h7;refine ⟨_,.zie (us:=us) (ms:=ms) (args1:=a) (B:=B) (F:=F) (args':=args') (H':=lk .free L') (r':=r') (H'':=lk .free L'')
  ⟨hv.loc H (fun _ _=>rfl) _ ⟨rfl,rfl⟩,h1,h2,h3,zxh h4,ycy h5,zeq h7.1.1.1,zeq h7.1.1.2,zoh h6,zeq h7.1.2,zeq h7.2,zoa h8,h9,rfl,by rw [ybl]⟩,h10⟩
theorem zas (F:List (Nat×Nat)) {f:FuncId} {args:List HV} {d:Nat} {H:Nat->zad} {K:Res->Prop}
 (h:zgh H args fun a us=>zjb (normArgs P (yai P f) a) fun a=>∃ r' L'',zao P f a zae r' (lk .free L'') /\
  (yrg H F/\(zex (F.map (·.1))&&zex (F.map (·.2)))=true/\yni (ren F) (lk .free L'') F=true/\zih (ren F) r'=true)/\K ⟨rn (ren F) r',us++xfn (ren F) (lk .free L'') F,[]⟩) :
 yda (CR P) f args d H K:=by
 obtain ⟨a,us,h,hv⟩:=zdz _ h;rw [zfx] at h;obtain ⟨r',L'',h1,⟨h6,h7,h8,h9⟩,h10⟩:=h;simp only [zy13] at h7;replace h1:=h1.args fun _ _ _ _ hx=>hx.normArgs _
 exact yy24
theorem xde (fz:List Nat) {pins:List Nat} {v r:HV} {H2:Nat->zad} {heap:List (Nat×zad)} (l:List (Nat×Option Nat)) (h1:zhu heap l=true) (h2:zex (zly heap l)=true) (h3:zqn (lkN l) pins)
 (h4:zih (lkN l) r=true) (h5:rn (lkN l) r=fzV fz H2 v) (h6:ydh (lkN l) (fzS fz (zrz [v] 1 H2 pins)) heap):xbl pins v H2 r (lk .free heap):=by
 refine ⟨fz,rfl,rfl,lkN l,fun i=>?_,?_,?_,?_⟩
 . cases i with
   | zero=>exact .inr ⟨h4,h5⟩
   | succ i =>
    refine .inr ⟨?_,?_⟩
    . show zih (lkN l) ((nth [r] (i+1)).getD .und)=true
      simp [nth,zih]
    . show rn (lkN l) ((nth [r] (i+1)).getD .und)=fzV fz H2 ((nth [v] (i+1)).getD .und)
      simp [nth,rn,fzV]
 . exact yky l h1 h3 h6
 . intro id id' b j hb hd hj hj'
   exact ygf h2 (zuh hj) (zuh hj') zz60 hd
 . exact ykz l h3
theorem zam {pins:List Nat} {v r:HV} {H2:Nat->zad} {heap:List (Nat×zad)} (l:List (Nat×Option Nat)) (h1:zhu heap l=true) (h2:zex (zly heap l)=true) (h3:zqn (lkN l) pins)
 (h4:zih (lkN l) r=true) (h5:rn (lkN l) r=v) (h6:ydh (lkN l) (zrz [v] 1 H2 pins) heap):xbl pins v H2 r (lk .free heap) :=
 xde [] l h1 h2 h3 h4 (by rw [yhj];exact h5) (by rw [yri];exact h6)
end
end Go.HL
namespace Go.HL
section
variable {P:Program}
theorem zfu {f:FuncId} {args:List HV} {d:Nat} {H:Nat->zad} {K:Res->Prop} (h:zgh H args fun a us=>∃ r,zao P f a zae r zae/\yff r=true/\K ⟨r,[],us.map (·.1)⟩) :
 yda (CR P) f args d H K:=by
 obtain ⟨a,us,⟨r,h1,h2,h3⟩,hv⟩:=zdz _ h;exact ⟨_,.lend ⟨hv.loc H (fun _ _=>rfl) _ ⟨rfl,rfl⟩,h1,h2,rfl,rfl⟩,h3⟩
def zbq {α:Type} (p:α->Bool) (k:Nat):List α->Int
 | []=>-1
 | x::r=>if p x then k else zbq p (k+1) r
theorem xbm {k n:Nat} (h:k<n) (hn:n<2 ^ 62):W ((k:Int)+1)=((k+1:Nat):Int):=by rw [zbh (by omega) (by omega)];push_cast;rfl
end
end Go.HL
namespace Go.HL
section
variable {P:Program}
theorem ynw (F:List (Nat×Nat)) {f:FuncId} {args:List HV} {d:Nat} {H:Nat->zad} {K:Res->Prop}
 (h:zgh H args fun a us=>∃ r' L'',zao P f a zae r' (lk .free L'') /\
  (yrg H F/\(zex (F.map (·.1))&&zex (F.map (·.2)))=true/\yni (ren F) (lk .free L'') F=true/\zih (ren F) r'=true)/\K ⟨rn (ren F) r',us++xfn (ren F) (lk .free L'') F,[]⟩) :
 yda (CR P) f args d H K:=by
 obtain ⟨a,us,h,hv⟩:=zdz _ h;obtain ⟨r',L'',h1,⟨h6,h7,h8,h9⟩,h10⟩:=h;simp only [zy13] at h7;exact yy24
end
end Go.HL
namespace Go.HL
theorem zbi:∀ {L:List (Nat×zad)} (i:Nat),lk .free L i=.free\/i∈L.map (·.1)
 | [],i=>.inl rfl
 | (a,b)::r,i=>by
  simp only [lk,zy24,zy18];cases hb:Nat.beq i a with
  | true=>exact .inr (.inl (zy4 hb))
  | false =>
   rcases zbi (L:=r) i with h | h
   . exact .inl h
   . exact .inr (.inr h)
end Go.HL
namespace Go.HL
open Go.RowKit
mutual
def PV.bulk:PV->Nat
 | .v (.string s)=>s.size+1
 | .v _=>1
 | .sl _ rows=>zpo rows+1
def ziz:List PV->Nat
 | []=>0
 | x::r=>x.bulk+ziz r
def zpo:List (List PV)->Nat
 | []=>0
 | r::rs=>ziz r+zpo rs
end
mutual
def dwb {H:Type}:DataW H->Nat
 | .lit (.string bytes)=>bytes.length+1
 | .lit _=>1
 | .nil=>1
 | .ptr d=>dwb d+1
 | .slice elems spare=>zrf elems+zrf spare+1
 | .agg parts=>zrf parts+1
 | .iface _ d=>dwb d+1
 | .map entries=>xfw entries+1
 | .held _=>1
def zrf {H:Type}:List (DataW H)->Nat
 | []=>0
 | d::r=>dwb d+zrf r
def xfw {H:Type}:List (Lit×DataW H)->Nat
 | []=>0
 | x::r=>xcj x+xfw r
def xcj {H:Type}:Lit×DataW H->Nat
 | (.string bytes,d)=>bytes.length+dwb d+1
 | (_,d)=>dwb d+1
end
def ygd (P:Program) (S:TypeId->Bool):Nat->Nat->List Field->Bool
 | off,tot,[]=>Nat.beq off tot
 | off,tot,f::fs=>Nat.beq f.offset off&&S f.type&&ygd P S (off+P.cellsOf f.type) tot fs
def yzq (P:Program):Nat->TypeId->Bool
 | 0,_=>false
 | n+1,t=>match P.underlying t with
  | some .bool=>true
  | some (.int _)=>true
  | some .string=>true
  | some (.slice e)=>yzq P n e&&Nat.blt 0 (P.cellsOf e)
  | some (.struct fs)=>ygd P (yzq P n) 0 (P.cellsOf t) fs.toList
  | _=>false
def xij (P:Program) (S:TypeId->List PV->Prop):List Field->List PV->Prop
 | [],pvs=>pvs=[]
 | f::fs,pvs=>∃ a b,pvs=a++b/\a.length=P.cellsOf f.type/\S f.type a/\xij P S fs b
def shp (P:Program):Nat->TypeId->List PV->Prop
 | 0,_,_=>False
 | n+1,t,pvs=>match P.underlying t with
  | some .bool=>∃ b,pvs=[.v (.bool b)]
  | some (.int k)=>∃ z,pvs=[.v (.int k z)]/\(Lit.int k z).wf=true
  | some .string=>∃ s,pvs=[.v (.string s)]/\s.size<=maxLen
  | some (.slice e)=>∃ rows,pvs=[.sl (P.cellsOf e) rows]/\∀ r∈rows,shp P n e r
  | some (.struct fs)=>xij P (shp P n) fs.toList pvs
  | _=>False
section
variable {H:Type} {enc:TypeId×Value->H} {P:Program} {W:World} {base:Nat} {sp:Nat->Bool} {held:Bool}
abbrev RW (W:World):Nat->Prop:=fun b=>b<W.heap.size
theorem zwo {a:Addr} {n:Nat} {cs:List Value} (h:W.cells? base a n=some cs):cs.length=n/\(∀ k v,cs[k]?=some v->W.cell? (a.add k)=some v):=by
 unfold World.cells? at h;split at h
 . have hl:=mapM_some_length h
   refine ⟨by simpa using hl,fun k v hv=>?_⟩;have hk:k<n:=by
    have:=(zy9.1 hv).1
    simpa [hl] using this
   have:=mapM_some_get h k k (by rw [zy85 hk]);rw [this];exact hv
 . cases h
theorem xcb {b o:Nat} {v:Value} (h:W.cell? ⟨b,o,none⟩=some v):b<W.heap.size:=by
 unfold World.cell? at h;cases hb:W.heap[b]? with
 | none=>simp only [hb] at h;cases h
 | some x=>exact (zy78.1 hb).1
theorem zrc:∀ (a b:List PV),ziz (a++b)=ziz a+ziz b
 | [],b=>by simp [ziz]
 | x::a,b=>by simp [ziz,zrc a b];omega
theorem ygg {fuel:Nat} {S:TypeId->Bool} {Sh:TypeId->List PV->Prop} {cs:List Value}
 (ih:∀ t cs d ps,S t=true->DataW.trod enc P W base sp held fuel t cs=some (d,ps)->∃ pvs,zep W (RW W) pvs cs/\Sh t pvs/\ziz pvs<=dwb d) :
 ∀ (fs:List Field) (off:Nat) (xs:List (DataW H×List MemPlace)),ygd P S off cs.length fs=true->off<=cs.length ->
  (∀ f∈fs,f.offset+P.cellsOf f.type<=cs.length) ->
  fs.mapM (fun f=>DataW.trod enc P W base sp held fuel f.type ((cs.drop f.offset).take (P.cellsOf f.type)))=some xs ->
  ∃ pvs,zep W (RW W) pvs (cs.drop off)/\xij P Sh fs pvs/\ziz pvs<=zrf (xs.map (·.1))
 | [],off,xs,hs,hle,_,h=>by
  simp only [ygd] at hs;have:=zy4 hs;subst this;simp only [List.mapM_nil,Option.pure_def,Option.some.injEq] at h;subst h;exact ⟨[],by rw [zy31 (zy22 _)];exact .nil,rfl,by simp [ziz,zrf]⟩
 | f::fs,off,xs,hs,hle,hb,h=>by
  simp only [ygd,zy13] at hs;obtain ⟨⟨h1,h2⟩,h3⟩:=hs;have h1:=zy4 h1;subst h1;simp only [List.mapM_cons,Option.bind_eq_bind,Option.pure_def] at h;cases hx:DataW.trod enc P W base sp held fuel f.type ((cs.drop f.offset).take (P.cellsOf f.type)) with
  | none=>rw [hx] at h;simp at h
  | some x =>
   obtain ⟨d,ps⟩:=x;rw [hx] at h;simp only [zy159] at h;cases hr:fs.mapM (fun f=>DataW.trod enc P W base sp held fuel f.type ((cs.drop f.offset).take (P.cellsOf f.type))) with
   | none=>rw [hr] at h;simp at h
   | some r =>
    rw [hr] at h;simp only [zy159,Option.some.injEq] at h;subst h;obtain ⟨pa,ha1,ha2,ha3⟩:=ih _ _ _ _ h2 hx;have hbf:=hb f zz4;obtain ⟨pb,hb1,hb2,hb3⟩:=ygg ih fs (f.offset+P.cellsOf f.type) r h3 hbf (fun g hg=>hb g (by simp [hg])) hr;have hl:=ha1.length;have htl:((cs.drop f.offset).take (P.cellsOf f.type)).length=P.cellsOf f.type:=by simp;omega
    refine ⟨pa++pb,?_,⟨pa,pb,rfl,by omega,ha2,hb2⟩,by rw [zrc];simp only [zy24,zrf];omega⟩;have:=ha1.append hb1;rw [<- zy134,zy25] at this;exact this
theorem ymz {S:TypeId->Bool} {tot:Nat}:∀ {fs:List Field} {off:Nat},ygd P S off tot fs=true->off<=tot/\∀ f∈fs,f.offset+P.cellsOf f.type<=tot
 | [],off,h=>by simp only [ygd] at h;have:=zy4 h;exact ⟨by omega,by simp⟩
 | f::fs,off,h=>by
  simp only [ygd,zy13] at h;obtain ⟨⟨h1,h2⟩,h3⟩:=h;have h1:=zy4 h1;obtain ⟨h4,h5⟩:=ymz h3;refine ⟨by omega,fun g hg=>?_⟩;rcases zy18.1 hg with rfl | hg
  . omega
  . exact h5 g hg
theorem ybi:∀ (n fuel:Nat) (t:TypeId) (cs:List Value) (d:DataW H) (ps:List MemPlace),yzq P n t=true->DataW.trod enc P W base sp held fuel t cs=some (d,ps) ->
 ∃ pvs,zep W (RW W) pvs cs/\shp P n t pvs/\ziz pvs<=dwb d
 | 0,fuel,t,cs,d,ps,hs,h=>by cases hs
 | n+1,0,t,cs,d,ps,hs,h=>by simp [DataW.trod] at h
 | n+1,fuel+1,t,cs,d,ps,hs,h=>by
  simp only [yzq] at hs;simp only [shp];unfold DataW.trod at h;cases hu:P.underlying t with
  | none=>rw [hu] at hs;cases hs
  | some u =>
   rw [hu] at hs h;cases u with
   | bool =>
    rcases cs with _ | ⟨c,_ | ⟨c2,cs⟩⟩
    . cases h
    . cases c<;>try cases h
      rename_i b;exact ⟨[.v (.bool b)],.cons (.v _ rfl) .nil,⟨b,rfl⟩,by simp [ziz,PV.bulk,dwb]⟩
    . cases c<;>first | cases h | simp at h
   | int k =>
    rcases cs with _ | ⟨c,_ | ⟨c2,cs⟩⟩
    . cases h
    . cases c<;>try cases h
      rename_i k' z;simp only at h;split at h
      . rename_i hw
        obtain ⟨rfl,hw⟩:=hw;cases h;exact ⟨[.v (.int k' z)],.cons (.v _ rfl) .nil,⟨z,rfl,hw⟩,by simp [ziz,PV.bulk,dwb]⟩
      . cases h
    . cases c<;>first | cases h | simp at h
   | string =>
    rcases cs with _ | ⟨c,_ | ⟨c2,cs⟩⟩
    . cases h
    . cases c<;>try cases h
      rename_i s;simp only at h;split at h
      . rename_i hw
        cases h;exact ⟨[.v (.string s)],.cons (.v _ rfl) .nil,⟨s,rfl,hw⟩,by simp only [ziz,PV.bulk,dwb,zy140,zy96];exact zy22 _⟩
      . cases h
    . cases c<;>first | cases h | simp at h
   | slice e =>
    simp only [zy13] at hs;obtain ⟨hs,hpos⟩:=hs;have hpos:0<P.cellsOf e:=zy11 hpos;rcases cs with _ | ⟨c,_ | ⟨c2,cs⟩⟩
    . cases h
    . cases c<;>try cases h
      rename_i a len cap;cases a with
      | none =>
       cases len with
       | zero=>cases cap with
        | zero =>
         cases h;exact ⟨[.sl (P.cellsOf e) []],.cons (.sl0 _ _ _ (zy104 _)) .nil,⟨[],rfl,by simp⟩,by simp [ziz,PV.bulk,zpo,dwb]⟩
        | succ cap=>cases h
       | succ len=>cases h
      | some a =>
       simp only at h;split at h
       . rename_i hb
         obtain ⟨hb,hlc,hcm⟩:=hb;cases he:(List.range len).mapM (fun i=>(W.cells? base (a.add (i*P.cellsOf e)) (P.cellsOf e)).bind (DataW.trod enc P W base sp held fuel e)) with
         | none=>rw [he] at h;simp at h
         | some elems =>
          rw [he] at h;simp only [zy159] at h;have hle:=mapM_some_length he;simp only [zy154] at hle;have hd:zrf (elems.map (·.1))+1<=dwb d:=by
           obtain ⟨rest,hr,hx⟩:=zy29.1 h;cases hx;simp only [dwb];omega
          -- each element
          have hat:∀ i,i<len->∃ cs x,W.cells? base (a.add (i*P.cellsOf e)) (P.cellsOf e)=some cs/\elems[i]?=some x/\DataW.trod enc P W base sp held fuel e cs=some x:=by
           intro i hi;have hg:=mapM_some_get he i i (by rw [zy85 hi]);obtain ⟨x,hx⟩:∃ x,elems[i]?=some x:=⟨_,zy3 zz0⟩
           rw [hx] at hg;cases hc:W.cells? base (a.add (i*P.cellsOf e)) (P.cellsOf e) with
           | none=>rw [hc] at hg;simp at hg
           | some cs=>rw [hc] at hg;exact ⟨cs,x,rfl,hx,by simpa using hg⟩
          cases len with
          | zero =>
           have:elems=[]:=zy21 hle;subst this;refine ⟨[.sl (P.cellsOf e) []],.cons (.sl0 _ _ _ hcm) .nil,⟨[],rfl,by simp⟩,?_⟩;simp [ziz,PV.bulk,zpo] at hd ⊢;omega
          | succ len =>
           have hspot:a=⟨a.block,a.off,none⟩:=by
            obtain ⟨cs0,x0,h1,_,_⟩:=hat 0 zz0;obtain ⟨hl0,hc0⟩:=zwo h1;have h2:=hc0 0 (cs0[0]'zz0) (zy3 zz0);simp only [Nat.zero_mul,Addr.add,if_true] at h2;obtain ⟨blk,off,spot⟩:=a;unfold World.cell? at h2;split at h2
            . split at h2
              . cases h2
              . rename_i hsn
                cases spot with
                | none=>rfl
                | some x=>simp at hsn
            . cases h2
           obtain ⟨blk,off,spot⟩:=a;simp only [Addr.mk.injEq,true_and] at hspot;subst hspot;have hadd:∀ off j,(⟨blk,off,none⟩:Addr).add j=⟨blk,off+j,none⟩:=by
            intro off j;unfold Addr.add;split
            . rename_i h0;subst h0;rfl
            . rfl
           have zvy:∀ i,i<len+1->∃ r:List PV,r.length=P.cellsOf e/\shp P n e r/\(∃ x,elems[i]?=some x/\ziz r<=dwb x.1)/\∀ (k:Nat) y,r[k]?=some y->∃ cv,W.cell? ⟨blk,off+(i*P.cellsOf e+k),none⟩=some cv/\zhg W (RW W) y cv:=by
            intro i hi;obtain ⟨cs,x,h1,h2,h3⟩:=hat i hi;obtain ⟨r,h4,h5,h6⟩:=ybi n fuel e cs x.1 x.2 hs h3;obtain ⟨h7,h8⟩:=zwo h1;refine ⟨r,by rw [<- h7];exact h4.length.symm,h5,⟨x,h2,h6⟩,fun k y hk=>?_⟩;obtain ⟨v,hv,hp⟩:=h4.get k y hk;have h9:=h8 k v hv;rw [hadd,hadd] at h9;exact ⟨v,by rw [<- h9,zy102],hp⟩
           let row:Nat->List PV:=fun i=>if hi:i<len+1 then Classical.choose (zvy i hi) else []
           have hrowi:∀ i (hi:i<len+1),(row i).length=P.cellsOf e/\shp P n e (row i)/\(∃ x,elems[i]?=some x/\ziz (row i)<=dwb x.1)/\∀ (k:Nat) y,(row i)[k]?=some y->∃ cv,W.cell? ⟨blk,off+(i*P.cellsOf e+k),none⟩=some cv/\zhg W (RW W) y cv:=by
            intro i hi;have:=Classical.choose_spec (zvy i hi);simp only [row,dif_pos hi];exact this
           let rows:=(List.range (len+1)).map row
           have hrl:rows.length=len+1:=by simp [rows]
           have hmem:∀ r∈rows,∃ i,i<len+1/\r=row i:=by
            intro r hr;obtain ⟨i,hi,rfl⟩:=zy28.1 hr;exact ⟨i,zy15.1 hi,rfl⟩
           have hlens:∀ r∈rows,r.length=P.cellsOf e:=by
            intro r hr;obtain ⟨i,hi,rfl⟩:=hmem r hr;exact (hrowi i hi).1
           have hcell:∀ k y,rows.flatten[k]?=some y->∃ cv,W.cell? ⟨blk,off+k,none⟩=some cv/\zhg W (RW W) y cv:=by
            intro k y hk;obtain ⟨i,j,r,e1,hj,hr,hy⟩:=zfe hlens hk;have hi:i<len+1:=by
             have:=(zy9.1 hr).1;rw [hrl] at this;exact this
            have hre:r=row i:=by
             simp only [rows,zy10,zy85 hi,zy70,Option.some.injEq] at hr;exact hr.symm
            subst hre;obtain ⟨cv,h1,h2⟩:=(hrowi i hi).2.2.2 j y hy;exact ⟨cv,by rw [e1];exact h1,h2⟩
           have hblk:blk<W.heap.size:=by
            obtain ⟨hl0,_,_,hc0⟩:=hrowi 0 zz0;obtain ⟨cv,h1,_⟩:=hc0 0 ((row 0)[0]'zz0) (zy3 zz0);exact xcb h1
           have hprep:zhg W (RW W) (.sl (P.cellsOf e) rows) (.slice (some ⟨blk,off,none⟩) (len+1) cap):=by
            have:=zhg.sl (w:=W) (R:=RW W) (P.cellsOf e) rows blk off cap (fun k=>(W.cell? ⟨blk,off+k,none⟩).getD undef) zz0 hcm hlens hblk
             (fun k y hk=>by obtain ⟨cv,h1,_⟩:=hcell k y hk;simp only [h1];rfl) (fun k y hk=>by obtain ⟨cv,h1,h2⟩:=hcell k y hk;simp only [h1];exact h2)
            rw [hrl] at this;exact this
           refine ⟨[.sl (P.cellsOf e) rows],.cons hprep .nil,⟨rows,rfl,fun r hr=>?_⟩,?_⟩
           . obtain ⟨i,hi,rfl⟩:=hmem r hr
             exact (hrowi i hi).2.1
           . have hbr:∀ (es:List (DataW H×List MemPlace)) (g:Nat->List PV) (m:Nat),es.length=m->(∀ i,i<m->∃ x,es[i]?=some x/\ziz (g i)<=dwb x.1)->zpo ((List.range m).map g)<=zrf (es.map (·.1)):=by
              intro es
              induction es with
              | nil=>intro g m hm _;simp at hm;subst hm;simp [zpo,zrf]
              | cons x es ih =>
               intro g m hm hg;simp at hm;subst hm;rw [List.range_succ_eq_map];simp only [zy24,zy95,zpo,zrf];obtain ⟨x0,h1,h2⟩:=hg 0 zz0;simp at h1;subst h1;have:=ih (g∘Nat.succ) es.length rfl fun i hi=>by
                obtain ⟨y,h3,h4⟩:=hg (i+1) zz0;exact ⟨y,by simpa using h3,h4⟩
               omega
             have:zpo rows<=zrf (elems.map (·.1)):=hbr elems row (len+1) hle fun i hi=>(hrowi i hi).2.2.1
             simp only [ziz,PV.bulk];show zpo rows+1+0<=dwb d;omega
       . cases h
    . cases c<;>first | cases h | simp at h
   | struct fs =>
    simp only at h;split at h
    . rename_i hl
      obtain ⟨xs,hx,hx2⟩:=zy29.1 h;cases hx2;rw [<- hl] at hs;obtain ⟨h1,h2⟩:=ymz hs;obtain ⟨pvs,h3,h4,h5⟩:=ygg (S:=yzq P n) (Sh:=shp P n) (fun t cs d ps=>ybi n fuel t cs d ps) fs.toList 0 xs hs h1 h2 hx;exact ⟨pvs,by simpa using h3,h4,by simp only [dwb];omega⟩
    . cases h
   | _=>cases hs
def ygp (P:Program) (t:TypeId) (pvs:List PV):HV:=match P.underlying t with
 | some (.struct _)=>.agg (pvs.map .p)
 | _=>match pvs with | [x]=>.p x | _=>.any
theorem yty {m:zfa} {R:Nat->Prop} {pvs:List PV} {vs:List Value} (h:zep W R pvs vs):zaz m W R (pvs.map .p) vs:=by
 induction h with
 | nil=>simp only [zy80,zaz]
 | cons h _ ih=>simp only [zy24,zaz];exact ⟨_,_,rfl,by simp only [zax];exact h,ih⟩
theorem xbt {n:Nat} {t:TypeId} {v:Value} {d:DataW H} {ps:List MemPlace} {r:Reach} {b0:Nat} {m:zfa} (hs:yzq P n t=true) (hok:Value.okWide P W r b0 t v) (h:DataW.Trod enc P W base sp held t v d ps) :
 ∃ pvs,shp P n t pvs/\ziz pvs<=dwb d/\zax m W (RW W) (ygp P t pvs) v:=by
 obtain ⟨fuel,h⟩:=h;obtain ⟨pvs,h1,h2,h3⟩:=ybi n fuel t _ d ps hs h;refine ⟨pvs,h2,h3,?_⟩;cases n with
 | zero=>cases hs
 | succ n =>
  have one:∀ {x:PV},pvs=[x]->v.cells=#[v]->zax m W (RW W) (.p x) v:=by
   intro x hx hv;subst hx;rw [hv] at h1;cases h1 with
   | cons h _=>simp only [zax];exact h
  simp only [yzq] at hs;simp only [shp] at h2;simp only [Value.okWide] at hok;unfold ygp;cases hu:P.underlying t with
  | none=>rw [hu] at hs;cases hs
  | some u =>
   rw [hu] at hs h2 hok;cases u with
   | bool =>
    simp only [Cell.okWide,Cell.ok,hu] at hok;obtain ⟨b,rfl⟩:=h2;cases v<;>try exact hok.elim
    exact one rfl rfl
   | int k =>
    exact yy52
   | string =>
    exact yy52
   | slice e =>
    exact yy52
   | struct fs =>
    obtain ⟨cs,rfl,_,_⟩:=hok;simp only [zax];exact ⟨cs,rfl,yty h1⟩
   | _=>cases hs
def xfl (P:Program) (n:Nat):List TypeId->List (List PV)->Prop
 | [],[]=>True
 | t::ts,x::xs=>shp P n t x/\xfl P n ts xs
 | _,_=>False
def zth (P:Program):List TypeId->List (List PV)->List HV
 | t::ts,x::xs=>ygp P t x::zth P ts xs
 | _,_=>[]
theorem yjk {n:Nat} {r:Reach} {b0:Nat} {m:zfa}:∀ {ts:List TypeId} {vs:List Value} {ds:List (DataW H)} {ps:List MemPlace},(∀ t∈ts,yzq P n t=true)->(∀ (j:Nat) t v,ts[j]?=some t->vs[j]?=some v->Value.okWide P W r b0 t v) ->
 DataW.TrodAll enc P W base sp held ts vs ds ps->∃ L,xfl P n ts L/\zpo L<=zrf ds/\zaz m W (RW W) (zth P ts L) vs/\ds.length=ts.length
 | [],[],[],ps,_,_,_=>⟨[],trivial,by simp [zpo,zrf],by simp only [zth,zaz],rfl⟩
 | t::ts,v::vs,d::ds,ps,hs,hok,h=>by
  obtain ⟨p,q,h1,h2,rfl⟩:=h;obtain ⟨x,h3,h4,h5⟩:=xbt (m:=m) (hs t zz4) (hok 0 t v rfl rfl) h1;obtain ⟨L,h6,h7,h8,h9⟩:=yjk (fun t ht=>hs t (by simp [ht])) (fun j t v hj hv=>hok (j+1) t v zz78 zz64) h2;exact ⟨x::L,⟨h3,h6⟩,by simp only [zpo,zrf];omega,by simp only [zth,zaz];exact ⟨v,vs,rfl,h5,h8⟩,by simp [h9]⟩
 | [],[],_::_,_,_,_,h=>h.elim
 | [],_::_,_,_,_,_,h=>h.elim
 | _::_,[],_,_,_,_,h=>h.elim
 | _::_,_::_,[],_,_,_,h=>h.elim
theorem zpi (hl:laidOutB P=true) {W':World} (hb:Below W.heap.size W W'):∀ {ts:List TypeId} {vs:List Value} {ds:List (DataW H)} {ps:List MemPlace},(∀ t∈ts,P.readableRec t=true/\t<P.types.size) ->
 DataW.TrodAll enc P W 0 (fun _=>true) true ts vs ds ps->(∀ x∈ps,x.block<W.heap.size)->DataW.TrodAll enc P W' 0 (fun b=>decide (b<W.heap.size)) true ts vs ds ps
 | [],[],[],ps,_,h,_=>h
 | t::ts,v::vs,d::ds,ps,hr,h,hlt=>by
  obtain ⟨p,q,h1,h2,rfl⟩:=h;exact ⟨p,q,Below.trod hl (hr t zz4).1 (hr t zz4).2 h1 hb fun x hx=>hlt x zz38,zpi hl hb (fun t ht=>hr t (by simp [ht])) h2 fun x hx=>hlt x zz38,rfl⟩
 | [],[],_::_,_,_,h,_=>h.elim
 | [],_::_,_,_,_,h,_=>h.elim
 | _::_,[],_,_,_,h,_=>h.elim
 | _::_,_::_,[],_,_,h,_=>h.elim
theorem ydu {f:FuncId} {fn:Func} {s:ChangeSpec} {args:Array Value} {ds gs:List (DataW H)} {before:List MemPlace} {b0:Nat} {tb:TypeId} (n:Nat) (hl:laidOutB P=true)
 (hsupp:fn.params.toList.all (yzq P n)=true) (hread:fn.params.toList.all (fun t=>P.readableRec t&&decide (t<P.types.size))=true)
 (hrt:fn.resultTypes=#[tb]) (htb:P.underlying tb=some .bool) (hvars:s.vars=[]) (hfn:∀ ds:List (DataW H),ds.length=fn.params.toList.length->(s.fn H ds).results=[.lit (.bool true)]/\(s.fn H ds).args=ds/\(s.fn H ds).vars=[])
 (hval:∀ (j:Nat) t v,fn.params[j]?=some t->args[j]?=some v->Value.okWide P W .any b0 t v)
 (hW:DataW.Whole enc P fn.params.toList s.vars false W args.toList ds gs before)
 (hspec:∀ L,xfl P n fn.params.toList L->zpo L<=zrf ds->zao P f (zth P fn.params.toList L) zae (zbk true) zae) :
 Calls P f args W fun e W'=>∃ v,e=.returned v/\s.post enc P fn false true false false W args v W':=by
 have hW':=hW;obtain ⟨p,q,hA,hV,rfl,hfz,hnd⟩:=hW;have hVe:gs=[]/\q=[]:=by
  rw [hvars] at hV;cases gs with
  | nil=>exact ⟨rfl,hV⟩
  | cons=>exact hV.elim
 obtain ⟨rfl,rfl⟩:=hVe;obtain ⟨L,h1,h2,h3,h4⟩:=yjk (m:=fun _=>none) (n:=n) (fun t ht=>zy7.1 hsupp t ht) (fun j t v hj hv=>hval j t v zz78 zz64) hA
 let Γ:Ctx:=⟨fun _=>True,W,fun _=>False,fun _=>none⟩
 have hok:zbc Γ (fun _=>none) zae W:=⟨zy22 _,rfl,rfl,rfl,fun _ _ _=>rfl,fun _ _=>rfl,(fun id b hb=>by cases hb),(fun id b hb=>by cases hb),(fun id id' b b' l l' hb=>by cases hb),fun b hb=>hb.elim⟩
 have hrep:zaz (fun _=>none) W (RR Γ (fun _=>none) zae W) (zth P fn.params.toList L) args.toList:=zaz.mono (.refl _) (fun b hb=>⟨rfl,.inl trivial,hb,yac⟩) _ _ h3;obtain ⟨-,hcalls⟩:=hspec L h1 h2 Γ _ W args.toList hok hrep rfl;have hat:args.toList.toArray=args:=by simp
 rw [hat] at hcalls;refine hcalls.mono fun e W1 he=>?_
 obtain ⟨v,m',rfl,hok',hv,_⟩:=he;have hvb:=zhh hv;subst hvb;have hb:Below W.heap.size W W1:=⟨hok'.os,hok'.tape,hok'.output,hok'.size,fun k hk=>hok'.frame k hk fun h=>h⟩
 obtain ⟨hf1,hf2,hf3⟩:=hfn (ds++[]) (by simp [h4]);refine ⟨_,rfl,ds,[],p++[],[],p,[],hW',?_,?_,?_,hb.frame _,fun h=>by cases h⟩
 . rw [hf1,hrt]
   have:(Value.bool true).resultList (#[tb]:Array TypeId).size=[.bool true]:=by simp [Value.resultList]
   rw [this];exact ⟨[],[],⟨1,by simp [DataW.trod,htb,Value.cells]⟩,rfl,rfl⟩
 . rw [hf2]
   have hlt:∀ x∈p,x.block<W.heap.size:=fun x hx=>by simpa using hW'.lt x zz46
   have:=zpi hl hb (fun t ht=>by
    have:=zy7.1 hread t ht;simp only [zy13,zy49] at this;exact this) hA hlt
   simpa using this
 . rw [hvars,hf3]
   rfl
end
end Go.HL
namespace Go.HL
section
variable {P:Program} {n:Nat} {t e:TypeId} {pvs:List PV}
theorem yur {k:IntKind} (hu:P.underlying t=some (.int k)) (h:shp P n t pvs):∃ z,pvs=[.v (.int k z)]/\(Lit.int k z).wf=true:=by
 cases n with
 | zero=>exact h.elim
 | succ n=>simpa only [shp,hu] using h
theorem xeo (hu:P.underlying t=some .string) (h:shp P n t pvs):∃ s,pvs=[.v (.string s)]/\s.size<=maxLen:=by
 cases n with
 | zero=>exact h.elim
 | succ n=>simpa only [shp,hu] using h
theorem wf_i64 {z:Int} (h:(Lit.int .i64 z).wf=true):-9223372036854775808<=z/\z<=9223372036854775807:=by
 simpa [Lit.wf,IntKind.min,IntKind.max,IntKind.signed,IntKind.bits] using h
theorem zvb {ts:List TypeId} {L:List (List PV)} (h:xfl P n (t::ts) L):∃ x xs,L=x::xs/\shp P n t x/\xfl P n ts xs:=by
 cases L with
 | nil=>exact h.elim
 | cons x xs=>exact ⟨x,xs,rfl,h.1,h.2⟩
theorem yzk {L:List (List PV)} (h:xfl P n [] L):L=[]:=by
 cases L with
 | nil=>rfl
 | cons x xs=>exact h.elim
end
end Go.HL
namespace Go.HL
abbrev pi (n:Int):PV:=.v (.int .i64 n)
abbrev pb (b:Bool):PV:=.v (.bool b)
abbrev ints (l:List Int):HV:=.p (.sl 1 (l.map fun n=>[pi n]))
def inI (z:Int):Prop:=-9223372036854775808<=z/\z<=9223372036854775807
section
variable {P:Program} {n c:Nat} {t e:TypeId} {pvs:List PV}
theorem xas {z:Int} (h:(Lit.int .i64 z).wf=true):inI z:=wf_i64 h
theorem yql {z:Int} (hu:P.underlying t=some (.int .i64)):ygp P t [.v (.int .i64 z)]=i64 z:=by unfold ygp;rw [hu]
theorem arg_str {s:ByteArray} (hu:P.underlying t=some .string):ygp P t [.v (.string s)]=.p (.v (.string s)):=by unfold ygp;rw [hu]
end
end Go.HL
namespace Go.HL
theorem zdk {α:Type} {f:α->List PV} {l:List α} {z:Int} {K:List PV->Prop} (k:Nat) (hz:z=k) (h:k<l.length) (hk:K (f l[k])):zvy (l.map f) z K :=
 ⟨_,by omega,by rw [hz,zy40,zy10,zy3 h];rfl,hk⟩
theorem zoj {b:List UInt8} {z:Int} {K:List PV->Prop} (k:Nat) (hz:z=k) (h:k<b.length) (hk:K (zdu (b[k]?.getD 0))):zvy (b.map zdu) z K :=
 ⟨_,by omega,by rw [hz,zy40,zy10,zy3 h];rfl,hk⟩
theorem zlj {α:Type} {f:α->List PV} {l:List α} {o n:Nat} {K:List (List PV)->Prop} (h:o+n<=l.length) (hk:K (((l.drop o).take n).map f)):zrk (l.map f) o n K :=
 ⟨_,rfl,by rw [zy2];exact h,by rw [<- zy101,<- zy119];exact hk⟩
theorem zom {α:Type} {f:α->List PV} {l:List α} {o n:Nat} {K:List (List PV)->Prop} (h:o+n=l.length) (hk:K ((l.drop o).map f)):zrk (l.map f) o n K:=by
 refine zlj zz0 ?_;rw [zy37 (by rw [zy34];omega)];exact hk
end Go.HL
namespace Go.HL
def by8 (z:Int):UInt8:=UInt8.ofNat (z % 256).toNat
theorem zgx (z:Int):((by8 z).toNat:Int)=z % 256:=by
 unfold by8;rw [UInt8.toNat_ofNat'];omega
theorem xhe (z:Int):IntKind.u8.wrap z=((by8 z).toNat:Int):=by
 rw [zgx];unfold IntKind.wrap;simp [IntKind.bits,IntKind.signed]
theorem zge {z:Int} {K:Int->Prop} (h:K ((by8 z).toNat:Int)):zms .u8 z K:=⟨_,(xhe z).symm,h⟩
abbrev ywh (l:List UInt8):HV:=.p (.sl 1 (l.map zdu))
def zcg (n:Int):List UInt8:=[by8 (n / 256),by8 n]
def zja (a b:UInt8):Int:=a.toNat*256+b.toNat
theorem zlb {n:Int} (h0:0<=n) (h1:n<65536):zja (by8 (n / 256)) (by8 n)=n:=by
 unfold zja;rw [zgx,zgx];omega
theorem zwm (b:UInt8):by8 (b.toNat:Int)=b:=by
 apply UInt8.toNat_inj.1;have h1:=zgx (b.toNat:Int);have h2:=b.toNat_lt;have:(b.toNat:Int) % 256=b.toNat:=by omega
 omega
theorem zle (a b:UInt8):zcg (zja a b)=[a,b]:=by
 have ha:=a.toNat_lt;have hb:=b.toNat_lt;unfold zcg zja;have e1:((a.toNat:Int)*256+b.toNat) / 256=a.toNat:=by omega
 rw [e1,zwm];have e2:by8 ((a.toNat:Int)*256+b.toNat)=b:=by
  apply UInt8.toNat_inj.1;have h1:=zgx ((a.toNat:Int)*256+b.toNat);have:((a.toNat:Int)*256+b.toNat) % 256=b.toNat:=by omega
  omega
 rw [e2]
end Go.HL
namespace Go.HL
theorem ylz (a:Nat) (ha:a<2 ^ 64):(BitVec.ofInt 64 (a:Int)).toNat=a:=by
 rw [BitVec.ofInt_natCast,BitVec.toNat_ofNat];exact Nat.mod_eq_of_lt zz0
theorem yyf (a b:Nat) (ha:a<256) (hb:b<256):bits .or .i64 ((a:Int)*256) (b:Int)=(a:Int)*256+b:=by
 have e:∀ z:Int,z=(a:Int)*256->z=((a <<< 8:Nat):Int):=by intro z hz;rw [Nat.shiftLeft_eq,hz];omega
 have h1:a <<< 8<2 ^ 64:=by rw [Nat.shiftLeft_eq];omega
 show IntKind.i64.wrap ((BitVec.ofInt 64 ((a:Int)*256) ||| BitVec.ofInt 64 (b:Int)).toNat:Int)=_;rw [e _ rfl,BitVec.toNat_or,ylz _ h1,ylz b (by omega),<- Nat.shiftLeft_add_eq_or_of_lt (by omega:b<2 ^ 8),Nat.shiftLeft_eq];have:=zbh (z:=((a*2 ^ 8+b:Nat):Int)) zz0 zz0;rw [show IntKind.i64.wrap ((a*2 ^ 8+b:Nat):Int)=W ((a*2 ^ 8+b:Nat):Int) from rfl,this];omega
theorem xdv (a:Nat) (ha:a<256):(BitVec.ofInt 8 (a:Int)).toNat=a:=by
 rw [BitVec.ofInt_natCast,BitVec.toNat_ofNat];exact Nat.mod_eq_of_lt zz0
theorem xbq (b:UInt8):bits .and .u8 (b.toNat:Int) 1=((b.toNat % 2:Nat):Int):=by
 have hb:=b.toNat_lt;show IntKind.u8.wrap ((BitVec.ofInt 8 (b.toNat:Int) &&& BitVec.ofInt 8 1).toNat:Int)=_;have h1:(BitVec.ofInt 8 1).toNat=2 ^ 1-1:=by decide
 rw [BitVec.toNat_and,xdv _ (by omega),h1,Nat.and_two_pow_sub_one_eq_mod,xhe,zgx];omega
theorem xbs (b:UInt8) (h:b.toNat<=3):bits .and .u8 (b.toNat:Int) 2=((b.toNat / 2*2:Nat):Int):=by
 generalize b.toNat=n at h ⊢
 match n,h with
 | 0,_=>decide
 | 1,_=>decide
 | 2,_=>decide
 | 3,_=>decide
theorem xbr (n:Int):bits .and .i64 n 65535=n % 65536:=by
 have h127:(BitVec.ofInt 64 65535).toNat=2 ^ 16-1:=by decide
 have key:(BitVec.ofInt 64 n &&& BitVec.ofInt 64 65535).toNat=(n % ((2 ^ 64:Nat):Int)).toNat % 2 ^ 16:=by
  rw [BitVec.toNat_and,BitVec.toNat_ofInt,h127,Nat.and_two_pow_sub_one_eq_mod]
 show IntKind.i64.wrap ((BitVec.ofInt 64 n &&& BitVec.ofInt 64 65535).toNat:Nat)=n % 65536;rw [key];rw [show IntKind.i64.wrap (((n % ((2 ^ 64:Nat):Int)).toNat % 2 ^ 16:Nat):Int)=W (((n % ((2 ^ 64:Nat):Int)).toNat % 2 ^ 16:Nat):Int) from rfl,zbh (by omega) (by omega)];omega
end Go.HL
namespace Go.HL
theorem zkh {α:Type} {d:α} {i:Nat} {x:α} {L:List (Nat×α)}:lk d ((i,x)::L)=upd (lk d L) i x:=by
 funext j;simp only [lk,upd]
theorem yvu {α:Type} (f:Nat->α) (i:Nat) (x y:α):upd (upd f i x) i y=upd f i y:=by
 funext j
 by_cases h:j=i
 . subst h;rw [zba,zba]
 . rw [zbd _ _ h,zbd _ _ h,zbd _ _ h]
section
variable {P:Program}
theorem yxe {f:FuncId} {args:List HV} {d:Nat} {H:Nat->zad} {K:Res->Prop} {r:Res} (h:Ov P f args H r) (k:K r):yda (CR P) f args d H K:=⟨r,.ov h,k⟩
theorem yrh {f:FuncId} {id:Nat} {t:TypeId} {n:Nat} {rows:List (List PV)} {rest:List HV} {L:List (Nat×zad)} {r:HV} {H':Nat->zad} (hne:rows≠[])
 (h:∀ cap,rows.length<=cap->cap<=maxLen->zao P f (.osl id n 0 rows.length::rest) (lk .free ((id,.live (.buf t n rows cap))::L)) r H'):zao P f (.own id::rest) (lk .free ((id,.live (.row t n rows))::L)) r H':=by
 intro Γ m w vals hok hx h0;have hH:lk .free ((id,zad.live (.row t n rows))::L) id=.live (.row t n rows):=by rw [zkh,zba]
 obtain ⟨l,hl,hbr,_⟩:=hok.live id _ hH;obtain ⟨h1,h2,h3⟩:=hbr;rcases h3 with ⟨_,h3⟩ | ⟨hn,h4,h5,arr,h6,h7,h8⟩
 . exact absurd h3 hne
 have hws:=WS.set hok hH hl hn (w':=w) (b':=.buf t n rows l.cap) rfl rfl rfl rfl (fun _ _=>rfl) fun R' hk =>
  ⟨hn,rfl,h2,h4,h5,arr,h6,h7,fun k x hx=>let ⟨cv,h9,h10⟩:=h8 k x hx;⟨cv,h9,h10.mono hk⟩⟩
 have he:upd (lk .free ((id,zad.live (.row t n rows))::L)) id (.live (.buf t n rows l.cap))=lk .free ((id,.live (.buf t n rows l.cap))::L):=by
  rw [zkh,zkh,yvu]
 rw [he] at hws;refine h l.cap h4 h5 Γ m w vals hws.ok ?_ h0;simp only [zaz] at hx ⊢;obtain ⟨v,vs,rfl,hv,hvs⟩:=hx;refine ⟨v,vs,rfl,?_,hws.repL hvs⟩;simp only [zax] at hv ⊢;obtain ⟨l',hl',rfl⟩:=hv;rw [hl] at hl';cases hl';exact ⟨l,some ⟨l.blk,0,none⟩,hl,by simp [Loc.room,hn];exact h4,by simp [Loc.room,hn];exact h5,by simp [hdr,hn,h1,Loc.room],fun _=>by simp [Loc.at,hn]⟩
theorem zua {f:FuncId} {id:Nat} {t:TypeId} {n:Nat} {rows:List (List PV)} {rest:List HV} {L:List (Nat×zad)} {r:HV} {H':Nat->zad}
 (h:zao P f (.osl id n 0 rows.length::rest) (lk .free ((id,.live (.row t n rows))::L)) r H'):zao P f (.own id::rest) (lk .free ((id,.live (.row t n rows))::L)) r H':=by
 intro Γ m w vals hok hx h0;have hH:lk .free ((id,zad.live (.row t n rows))::L) id=.live (.row t n rows):=by rw [zkh,zba]
 obtain ⟨l,hl,hbr,_⟩:=hok.live id _ hH;obtain ⟨h1,h2,h3⟩:=hbr;refine h Γ m w vals hok ?_ h0;simp only [zaz] at hx ⊢;obtain ⟨v,vs,rfl,hv,hvs⟩:=hx;refine ⟨v,vs,rfl,?_,hvs⟩;simp only [zax] at hv ⊢;obtain ⟨l',hl',rfl⟩:=hv;rw [hl] at hl';cases hl';rcases h3 with ⟨hn,h3⟩ | ⟨hn,h4,h5,_⟩
 . subst h3
   exact ⟨l,none,hl,by simp,by simp [Loc.room,hn],by simp [hdr,hn,Loc.room],fun _=>by simp [Loc.at,hn]⟩
 . exact ⟨l,some ⟨l.blk,0,none⟩,hl,by simp [Loc.room,hn];exact h4,by simp [Loc.room,hn];exact h5,by simp [hdr,hn,h1,Loc.room],fun _=>by simp [Loc.at,hn]⟩
theorem zjj {f:FuncId} {args:List HV} {H:Nat->zad} {id d:Nat} {b:zia} {t:TypeId} {n k:Nat} {rows:List (List PV)} {L:List (Nat×zad)}
 (h:zao P f args H (.osl id n 0 k) (lk .free ((id,.live b)::L))) (hb:b=.row t n rows\/∃ c,b=.buf t n rows c) (hk:k<=rows.length) (hd:lk .free L d=.free) (hid:d≠id) :
 zao P f args H (.own d) (lk .free ((id,.dead)::(d,.live (.row t n (rows.take k)))::L)):=by
 intro Γ m w vals hok hx h0;obtain ⟨hcf,hcalls⟩:=h Γ m w vals hok hx h0;refine ⟨hcf,hcalls.mono fun e w' he=>?_⟩;obtain ⟨v,m',rfl,hok',hv,hpin⟩:=he;have hH:lk .free ((id,zad.live b)::L) id=.live b:=by rw [zkh,zba]
 have hdf:lk .free ((id,zad.live b)::L) d=.free:=by rw [zkh,zbd _ _ hid];exact hd
 obtain ⟨l,hl,hbr,_⟩:=hok'.live id _ hH;have heq:∀ y:zad,upd (upd (lk .free ((id,zad.live b)::L)) id .dead) d y=lk .free ((id,.dead)::(d,y)::L):=by
  intro y;rw [zkh,zkh,zkh,yvu,ybk _ _ _ (Ne.symm hid)]
 simp only [zax] at hv;obtain ⟨l',a,hl',g1,g2,rfl,g5⟩:=hv;rw [hl] at hl';cases hl';have g5:=g5 (.inr trivial);have hlt:((rows.take k)).length=k:=by simp;omega
 have hlens:(∀ r∈rows,r.length=n)/\(l.nil=true->rows=[])/\(l.nil=false->rows.length<=l.cap/\l.cap<=maxLen/\∃ arr:Array Value,w'.heap[l.blk]?=some (.cells arr t (0,0))/\arr.size=l.cap*n/\∀ (k:Nat) x,rows.flatten[k]?=some x->∃ cv,arr[k]?=some cv/\zhg w' (RR Γ m' (lk .free ((id,zad.live b)::L)) w') x cv):=by
  rcases hb with rfl | ⟨c,rfl⟩
  . obtain ⟨q1,q2,q3⟩:=hbr
    refine ⟨q2,fun hn=>?_,fun hn=>?_⟩
    . rcases q3 with ⟨_,q3⟩ | ⟨q3,_⟩
      . exact q3
      . rw [hn] at q3;cases q3
    . rcases q3 with ⟨q3,_⟩ | ⟨_,q4,q5,q6⟩
      . rw [hn] at q3;cases q3
      . exact ⟨q4,q5,q6⟩
  . obtain ⟨q1,q2,q3,q4,q5,q6⟩:=hbr
    exact ⟨q3,(fun hn=>by rw [hn] at q1;cases q1),fun _=>⟨q4,q5,q6⟩⟩
 obtain ⟨c1,c2,c3⟩:=hlens;cases hn:l.nil with
 | true =>
  have hr0:=c2 hn;subst hr0;have hk0:k=0:=by simpa using hk
  subst hk0;have hdrop:=WS.drop hok' hH;have hf2:upd (lk .free ((id,zad.live b)::L)) id .dead d=.free:=(zbd _ _ hid).trans hdf;obtain ⟨m2,hws,hm2⟩:=WS.newNil hdrop.ok hf2 t n;rw [heq] at hws;refine ⟨_,m2,rfl,hws.ok,?_,fun i l hp hi=>(hdrop.ext.trans hws.ext) _ _ (hpin i l hp hi)⟩;simp only [zax];refine ⟨_,hm2,?_⟩;rw [g5];simp [hdr,Loc.at,Loc.room,hn]
 | false =>
  obtain ⟨c4,c5,arr,c6,c7,c8⟩:=c3 hn;obtain ⟨m2,hws,hm2⟩:=WS.rename hok' hH hl hn hdf (b':=.row t n (rows.take k)) k (w':=w') rfl rfl rfl rfl (fun _ _=>rfl) fun m3 R' hext hkk =>
   ⟨by simp;omega,fun r hr=>c1 r (zy65 hr),.inr ⟨rfl,by simp;omega,c5,arr,c6,c7,fun j x hj=>by
    have:rows.flatten=(rows.take k).flatten++(rows.drop k).flatten:=by rw [<- zy74,zy25]
    have hj':rows.flatten[j]?=some x:=by rw [this,zy35 ((zy9.1 hj).1)];exact hj
    obtain ⟨cv,q1,q2⟩:=c8 j x hj';exact ⟨cv,q1,q2.mono hkk⟩⟩⟩
  rw [heq] at hws;refine ⟨_,m2,rfl,hws.ok,?_,fun i l hp hi=>hws.ext _ _ (hpin i l hp hi)⟩;simp only [zax];refine ⟨_,hm2,?_⟩;rw [g5];simp [hdr,Loc.at,Loc.room,hn]
end
end Go.HL
namespace Go.HL
theorem xgd {b:Bool} {A B:Prop} (ha:A) (h:b=true:=by first | rfl | assumption | omega | (simp only [gt_iff_lt,ge_iff_le,zy49,zy42,zy41,zy128,ne_eq,zy20,bne_eq_false_iff_eq,zy2,zy6,zy5,zy14,zy52,zy34,zy54,zy62,zy156,Bool.not_eq_false,Decidable.not_not,Nat.cast_ofNat,zy125]<;>omega) | (simp<;>omega)):hif b A B:=zai h ha
theorem xig {b:Bool} {A B:Prop} (hb:B) (h:b=false:=by first | rfl | assumption | omega | (simp only [gt_iff_lt,ge_iff_le,zy49,zy42,zy41,zy128,ne_eq,zy20,bne_eq_false_iff_eq,zy2,zy6,zy5,zy14,zy52,zy34,zy54,zy62,zy156,Bool.not_eq_false,Decidable.not_not,Nat.cast_ofNat,zy125]<;>omega) | (simp<;>omega)):hif b A B:=zag h hb
theorem zdx {s:HS} {n:Nat} {slots:List (Nat×HV)} {heap:List (Nat×zad)} (l:List (Nat×Option Nat))
 (h4:ywc (lkN l) s slots:=by repeat' (first | exact trivial | exact rfl | (refine ⟨⟨rfl,?_⟩,?_⟩) | (refine ⟨rfl,?_⟩) | (simp;done) | (simp;rfl)))
 (h5:ydh (lkN l) s heap:=by repeat' (first | exact trivial | exact rfl | exact .inl rfl | exact .inr rfl | (refine ⟨⟨rfl,.inl ⟨_,rfl,?_⟩⟩,?_⟩) | (refine ⟨⟨rfl,_,rfl,?_⟩,?_⟩) | (refine ⟨⟨rfl,.inr ⟨rfl,?_⟩⟩,?_⟩) | (refine ⟨rfl,?_⟩) | (simp;done) | (simp;rfl)))
 (hn:n=s.n:=by rfl) (hp:[]=s.pins:=by rfl) (h1:zhu heap l=true:=by rfl) (h2:zex (zly heap l)=true:=by rfl):HLe s (hs n slots heap):=zdo l hn hp h1 h2 h4 h5
theorem zcx {s:HS} {pins:List Nat} {n:Nat} {slots:List (Nat×HV)} {heap:List (Nat×zad)} (l:List (Nat×Option Nat))
 (h4:ywc (lkN l) s slots:=by repeat' (first | exact trivial | exact rfl | (refine ⟨⟨rfl,?_⟩,?_⟩) | (refine ⟨rfl,?_⟩) | (simp;done) | (simp;rfl)))
 (h5:ydh (lkN l) s heap:=by repeat' (first | exact trivial | exact rfl | exact .inl rfl | exact .inr rfl | (refine ⟨⟨rfl,.inl ⟨_,rfl,?_⟩⟩,?_⟩) | (refine ⟨⟨rfl,_,rfl,?_⟩,?_⟩) | (refine ⟨⟨rfl,.inr ⟨rfl,?_⟩⟩,?_⟩) | (refine ⟨rfl,?_⟩) | (simp;done) | (simp;rfl)))
 (hn:n=s.n:=by rfl) (hp:pins=s.pins:=by rfl) (h1:zhu heap l=true:=by rfl) (h2:zex (zly heap l)=true:=by rfl) (h3:zqn (lkN l) pins:=by repeat' (first | exact trivial | (refine ⟨rfl,?_⟩))):HLe s (hsP pins n slots heap):=yry l hn hp h1 h2 h3 h4 h5
theorem zby {pins:List Nat} {v r:HV} {H2:Nat->zad} {heap:List (Nat×zad)} (l:List (Nat×Option Nat)) (h5:rn (lkN l) r=v:=by rfl)
 (h6:ydh (lkN l) (zrz [v] 1 H2 pins) heap:=by repeat' (first | exact trivial | exact rfl | exact .inl rfl | exact .inr rfl | (refine ⟨⟨rfl,.inl ⟨_,rfl,?_⟩⟩,?_⟩) | (refine ⟨⟨rfl,_,rfl,?_⟩,?_⟩) | (refine ⟨⟨rfl,.inr ⟨rfl,?_⟩⟩,?_⟩) | (refine ⟨rfl,?_⟩) | (simp;done) | (simp;rfl)))
 (h1:zhu heap l=true:=by rfl) (h2:zex (zly heap l)=true:=by rfl) (h3:zqn (lkN l) pins:=by repeat' (first | exact trivial | (refine ⟨rfl,?_⟩))) (h4:zih (lkN l) r=true:=by rfl):xbl pins v H2 r (lk .free heap):=zam l h1 h2 h3 h4 h5 h6
end Go.HL
namespace Go.HL
theorem om {P:Prop} (h:P:=by first | omega | (simp only [zy2,zy6,zy52,zy34,zy5,zy14]<;>omega) | (simp<;>omega)):P:=h
theorem dc {P:Prop} (h:P:=by first | rfl | assumption | omega | (simp only [gt_iff_lt,ge_iff_le,zy49,zy42,zy41,zy128,ne_eq,zy20,bne_eq_false_iff_eq,zy2,zy6,zy5,zy14,zy52,zy34,zy54,zy62,zy156,Bool.not_eq_false,Decidable.not_not,Nat.cast_ofNat,zy125]<;>omega) | (simp<;>omega)):P:=h
theorem sF {z:Int} {K:Int->Prop} {Q:Prop} (q:Q) (h1:-9223372036854775808<=z:=by exact om) (h2:z<=9223372036854775807:=by exact om) (e:Q->K z:=by (intro h;(conv=>whnf);(try (refine znk.go ?_;conv=>whnf));exact h)):zms .i64 z K:=zat (zbh h1 h2) (e q)
theorem sT {b:Bool} {A B Q:Prop} (q:Q) (h:b=true:=by exact dc) (e:Q->A:=by (intro h;(conv=>whnf);(try (refine znk.go ?_;conv=>whnf));exact h)):hif b A B:=zai h (e q)
theorem sN {b:Bool} {A B Q:Prop} (q:Q) (h:b=false:=by exact dc) (e:Q->B:=by (intro h;(conv=>whnf);(try (refine znk.go ?_;conv=>whnf));exact h)):hif b A B:=zag h (e q)
theorem sO {c k Q:Prop} (q:Q) (h:c:=by exact om) (e:Q->k:=by (intro h;(conv=>whnf);(try (refine znk.go ?_;conv=>whnf));exact h)):znc c k:=zaa h (e q)
theorem sR {P Q:Prop} (q:Q) (e:Q->P:=by (intro h;(first | refine xdk ?_ | refine zcp ?_);(conv=>whnf);(try (refine znk.go ?_;conv=>whnf));exact h)):P:=e q
theorem sD {P:Program} {s:HS} {all:Array Oper} {l:List Lab} {k Q:Prop} (q:Q) (e:Q->k:=by (intro h;(conv=>whnf);(try (refine znk.go ?_;conv=>whnf));exact h)) (h:zkf all l=true:=by kernel_rfl):yrr P s all l k:=zbe h (e q)
theorem sFm {z:Int} {K:Int->Prop} {Q:Prop} (q:Q) (h1:-9223372036854775808<=z:=by exact om) (h2:z<=9223372036854775807:=by exact om) (e:Q->K z:=by (intro h;(conv=>whnf);exact h)):zms .i64 z K:=zat (zbh h1 h2) (e q)
theorem sTm {b:Bool} {A B Q:Prop} (q:Q) (h:b=true:=by exact dc) (e:Q->A:=by (intro h;(conv=>whnf);exact h)):hif b A B:=zai h (e q)
theorem sNm {b:Bool} {A B Q:Prop} (q:Q) (h:b=false:=by exact dc) (e:Q->B:=by (intro h;(conv=>whnf);exact h)):hif b A B:=zag h (e q)
theorem sOm {c k Q:Prop} (q:Q) (h:c:=by exact om) (e:Q->k:=by (intro h;(conv=>whnf);exact h)):znc c k:=zaa h (e q)
theorem sG {X:(HX->HS->Prop)->Prop} {Y:HWP} {K:HX->HS->Prop} {Q:Prop} (q:Q) (e:Q->X fun e s'=>match e with | .normal=>Y s' K | .exit id=>K (.exit id) s' | .ret=>K .ret s':=by (intro h;(conv=>whnf);exact h)):znk X Y K:=.go (e q)
theorem cL {P Q:Prop} (q:Q) (e:Q->P:=by (intro h;refine zbm ?_;(conv=>whnf);exact h)):P:=e q
theorem cZ {P Q:Prop} (q:Q) (e:Q->P:=by (intro h;refine zfu ?_;(conv=>whnf);exact h)):P:=e q
theorem cP {P Q:Prop} (q:Q) (e:Q->P:=by (intro h;refine zel ?_;(conv=>whnf);exact h)):P:=e q
theorem dL {α:Type} {A B K:α->Prop} {r:α} {Q:Prop} (c:A r) (q:Q) (s:B r:=by exact rfl) (e:Q->K r:=by (intro h;(conv=>whnf);(try (refine znk.go ?_;conv=>whnf));exact h)):∃ r,A r/\B r/\K r:=⟨r,c,s,e q⟩
theorem dLm {α:Type} {A B K:α->Prop} {r:α} {Q:Prop} (c:A r) (q:Q) (s:B r:=by exact rfl) (e:Q->K r:=by (intro h;(conv=>whnf);exact h)):∃ r,A r/\B r/\K r:=⟨r,c,s,e q⟩
theorem dO {α β:Type} {A B K:α->β->Prop} {r:α} {t:β} {Q:Prop} (c:A r t) (q:Q) (s:B r t:=by exact ⟨zz49,rfl,rfl,rfl⟩) (e:Q->K r t:=by (intro h;(conv=>whnf);(try (refine znk.go ?_;conv=>whnf));exact h)) :
 ∃ r t,A r t/\B r t/\K r t:=⟨r,t,c,s,e q⟩
theorem dG {α β γ δ:Type} {A B K:α->β->γ->δ->Prop} {a:α} {b:β} {r:γ} {t:δ} {Q:Prop} (c:A a b r t) (q:Q)
 (s:B a b r t:=by exact ⟨rfl,rfl,rfl,(by repeat' (first | exact trivial | (refine ⟨zz1,?_⟩))),zz49,rfl,rfl,rfl⟩)
 (e:Q->K a b r t:=by (intro h;(conv=>whnf);(try (refine znk.go ?_;conv=>whnf));exact h)):∃ a b r t,A a b r t/\B a b r t/\K a b r t:=⟨a,b,r,t,c,s,e q⟩
theorem dGm {α β γ δ:Type} {A B K:α->β->γ->δ->Prop} {a:α} {b:β} {r:γ} {t:δ} {Q:Prop} (c:A a b r t) (q:Q)
 (s:B a b r t:=by exact ⟨rfl,rfl,rfl,(by repeat' (first | exact trivial | (refine ⟨zz1,?_⟩))),zz49,rfl,rfl,rfl⟩)
 (e:Q->K a b r t:=by (intro h;(conv=>whnf);exact h)):∃ a b r t,A a b r t/\B a b r t/\K a b r t:=⟨a,b,r,t,c,s,e q⟩
theorem z0 {P:Prop} (h:P:=by first | exact trivial | exact rfl | exact .inl rfl | exact .inr rfl):P:=h
theorem z2 {P:Prop} (h:P:=by first | (simp;done) | (simp;rfl)):P:=h
theorem z1 {P Q:Prop} (q:Q) (e:Q->P:=by first | exact fun h=>.inl ⟨_,rfl,h⟩ | exact fun h=>⟨_,rfl,h⟩ | exact fun h=>.inr ⟨rfl,h⟩):P:=e q
abbrev pK5 (l:List (Nat×Option Nat)):List (Nat×Option Nat):=(1000,some 1000)::(1001,some 1001)::(1002,some 1002)::(1003,some 1003)::(1004,some 1004)::l
abbrev pK7 (l:List (Nat×Option Nat)):List (Nat×Option Nat):=(1000,some 1000)::(1001,some 1001)::(1002,some 1002)::(1003,some 1003)::(1004,some 1004)::(1005,some 1005)::(1006,some 1006)::l
abbrev pK8 (l:List (Nat×Option Nat)):List (Nat×Option Nat):=(1000,some 1000)::(1001,some 1001)::(1002,some 1002)::(1003,some 1003)::(1004,some 1004)::(1005,some 1005)::(1006,some 1006)::(1007,some 1007)::l
abbrev pK9 (l:List (Nat×Option Nat)):List (Nat×Option Nat):=(1000,some 1000)::(1001,some 1001)::(1002,some 1002)::(1003,some 1003)::(1004,some 1004)::(1005,some 1005)::(1006,some 1006)::(1007,some 1007)::(1008,some 1008)::l
abbrev zhf (l:List (Nat×Option Nat)):List (Nat×Option Nat):=(1000,some 1000)::(1001,some 1001)::(1002,some 1002)::(1003,some 1003)::(1004,some 1004)::(1005,some 1005)::(1006,some 1006)::(1007,some 1007)::(1008,some 1008)::(1009,some 1009)::l
abbrev pJ3 (l:List (Nat×Option Nat)):List (Nat×Option Nat):=(900,some 900)::(901,some 901)::(902,some 902)::l
abbrev pJ6 (l:List (Nat×Option Nat)):List (Nat×Option Nat):=(900,some 900)::(901,some 901)::(902,some 902)::(903,some 903)::(904,some 904)::(905,some 905)::l
abbrev pJ7 (l:List (Nat×Option Nat)):List (Nat×Option Nat):=(900,some 900)::(901,some 901)::(902,some 902)::(903,some 903)::(904,some 904)::(905,some 905)::(906,some 906)::l
abbrev pJ8 (l:List (Nat×Option Nat)):List (Nat×Option Nat):=(900,some 900)::(901,some 901)::(902,some 902)::(903,some 903)::(904,some 904)::(905,some 905)::(906,some 906)::(907,some 907)::l
theorem zcr {s:HS} {n:Nat} {slots:List (Nat×HV)} {heap:List (Nat×zad)} (l:List (Nat×Option Nat)) (h:ywc (lkN l) s slots/\ydh (lkN l) s heap)
 (hn:n=s.n:=by rfl) (hp:[]=s.pins:=by rfl) (h1:zhu heap l=true:=by rfl) (h2:zex (zly heap l)=true:=by rfl):HLe s (hs n slots heap):=zdo l hn hp h1 h2 h.1 h.2
theorem zbu {s:HS} {pins:List Nat} {n:Nat} {slots:List (Nat×HV)} {heap:List (Nat×zad)} (l:List (Nat×Option Nat)) (h:ywc (lkN l) s slots/\ydh (lkN l) s heap)
 (hn:n=s.n:=by rfl) (hp:pins=s.pins:=by rfl) (h1:zhu heap l=true:=by rfl) (h2:zex (zly heap l)=true:=by rfl) (h3:zqn (lkN l) pins:=by repeat' (first | exact trivial | (refine ⟨rfl,?_⟩))):HLe s (hsP pins n slots heap):=yry l hn hp h1 h2 h3 h.1 h.2
theorem zdc {pins:List Nat} {v r:HV} {H2:Nat->zad} {heap:List (Nat×zad)} (l:List (Nat×Option Nat)) (h:rn (lkN l) r=v/\ydh (lkN l) (zrz [v] 1 H2 pins) heap)
 (h1:zhu heap l=true:=by rfl) (h2:zex (zly heap l)=true:=by rfl) (h3:zqn (lkN l) pins:=by repeat' (first | exact trivial | (refine ⟨rfl,?_⟩))) (h4:zih (lkN l) r=true:=by rfl):xbl pins v H2 r (lk .free heap):=zam l h1 h2 h3 h4 h.1 h.2
end Go.HL
namespace Go.HL
end Go.HL
namespace Go.Proofs.YticmofoeecjnhaaGreat
open Go.HL Go.ChangeShapes Go.WideShapes Go.ChangeAt Go.RowKit
theorem own:ownKnob Tryz.prog.godebug=none:=by kernel_rfl
mutual
theorem zyu {H:Type}:(d:DataW H)->Rows.uptoBulk d=dwb d
 | .lit l=>by cases l<;>simp only [Rows.uptoBulk,dwb]
 | .nil=>by simp only [Rows.uptoBulk,dwb]
 | .ptr d=>by simp only [Rows.uptoBulk,dwb,zyu d]
 | .slice a b=>by simp only [Rows.uptoBulk,dwb,zjg a,zjg b]
 | .agg p=>by simp only [Rows.uptoBulk,dwb,zjg p]
 | .iface _ d=>by simp only [Rows.uptoBulk,dwb,zyu d]
 | .map e=>by simp only [Rows.uptoBulk,dwb,yjo e]
 | .held _=>by simp only [Rows.uptoBulk,dwb]
theorem zjg {H:Type}:(l:List (DataW H))->Rows.uptoBulkAll l=zrf l
 | []=>by simp only [Rows.uptoBulkAll,zrf]
 | d::r=>by simp only [Rows.uptoBulkAll,zrf,zyu d,zjg r]
theorem yjo {H:Type}:(l:List (Lit×DataW H))->Rows.uptoBulkEntries l=xfw l
 | []=>by simp only [Rows.uptoBulkEntries,xfw]
 | d::r=>by simp only [Rows.uptoBulkEntries,xfw,yqn d,yjo r]
theorem yqn {H:Type}:(x:Lit×DataW H)->Rows.uptoBulkEntry x=xcj x
 | (l,d)=>by cases l<;>simp only [Rows.uptoBulkEntry,xcj,zyu d]
end
theorem ygz {H:Type} (l r:List (DataW H)):zrf (l++r)=zrf l+zrf r:=by
 induction l with
 | nil=>simp [zrf]
 | cons x l ih=>simp only [zy38,zrf,ih];omega
theorem xfx {H:Type} {ds gs:List (DataW H)} (hk:Rows.uptoSmall H (ds++gs)=true):zrf ds<=1048576:=by
 have h:=zy43 hk;rw [zjg,ygz] at h;omega
theorem xfq {a b:Bool} (ha:a=true) (hb:b=true):(a&&b)=true:=by rw [ha,hb];rfl
end Go.Proofs.YticmofoeecjnhaaGreat
namespace Go.HL
theorem mixed:Tryz.prog.follows .mixedOrders=true:=by kernel_rfl
structure Span where
 lo:Int
 hi:Int
def Span.row (x:Span):List PV:=[pi x.lo,pi x.hi]
def Span.hv (x:Span):HV:=.agg [.p (pi x.lo),.p (pi x.hi)]
structure zga where
 stream:Int
 mid:Int
 ordered:Bool
def zga.row (x:zga):List PV:=[pi x.stream,pi x.mid,pb x.ordered]
def zga.hv (x:zga):HV:=.agg [.p (pi x.stream),.p (pi x.mid),.p (pb x.ordered)]
structure Chunk where
 kind:Int
 tag:Int
 stream:Int
 mid:Int
 part:Int
 last:Bool
 ordered:Bool
 data:List UInt8
 zau:List Span
 room:Int
 zbw:List zga
def Chunk.row (x:Chunk):List PV:=[pi x.kind,pi x.tag,pi x.stream,pi x.mid,pi x.part,pb x.last,pb x.ordered,.sl 1 (x.data.map zdu),.sl 2 (x.zau.map Span.row),pi x.room,.sl 3 (x.zbw.map zga.row)]
def Chunk.cells (x:Chunk):List HV:=[.p (pi x.kind),.p (pi x.tag),.p (pi x.stream),.p (pi x.mid),.p (pi x.part),.p (pb x.last),.p (pb x.ordered),.p (.sl 1 (x.data.map zdu)),.p (.sl 2 (x.zau.map Span.row)),.p (pi x.room),.p (.sl 3 (x.zbw.map zga.row))]
def Chunk.hv (x:Chunk):HV:=.agg [.p (pi x.kind),.p (pi x.tag),.p (pi x.stream),.p (pi x.mid),.p (pi x.part),.p (pb x.last),.p (pb x.ordered),.p (.sl 1 (x.data.map zdu)),.p (.sl 2 (x.zau.map Span.row)),.p (pi x.room),.p (.sl 3 (x.zbw.map zga.row))]
structure Config where
 streams:Int
 part:Int
 packet:Int
 paths:Int
 turns:Int
 waiting:Int
 first:Int
def Config.hv (x:Config):HV:=.agg [.p (pi x.streams),.p (pi x.part),.p (pi x.packet),.p (pi x.paths),.p (pi x.turns),.p (pi x.waiting),.p (pi x.first)]
structure Message where
 stream:Int
 ordered:Bool
 life:Int
 tries:Int
 data:List UInt8
def Message.hv (x:Message):HV:=.agg [.p (pi x.stream),.p (pb x.ordered),.p (pi x.life),.p (pi x.tries),.p (.sl 1 (x.data.map zdu))]
structure zaf where
 id:Int
 mid:Int
 came:Int
 sent:Int
 parts:Int
 message:Message
def zaf.row (x:zaf):List PV:=[pi x.id,pi x.mid,pi x.came,pi x.sent,pi x.parts,pi x.message.stream,pb x.message.ordered,pi x.message.life,pi x.message.tries,.sl 1 (x.message.data.map zdu)]
def zaf.hv (x:zaf):HV:=.agg [.p (pi x.id),.p (pi x.mid),.p (pi x.came),.p (pi x.sent),.p (pi x.parts),.p (pi x.message.stream),.p (pb x.message.ordered),.p (pi x.message.life),.p (pi x.message.tries),.p (.sl 1 (x.message.data.map zdu))]
structure ziy where
 last:Int
 hand:Int
 had:List Int
def ziy.row (x:ziy):List PV:=[pi x.last,pi x.hand,.sl 1 (x.had.map (fun n=>[pi n]))]
def ziy.cells (x:ziy):List HV:=[.p (pi x.last),.p (pi x.hand),.p (.sl 1 (x.had.map (fun n=>[pi n])))]
def ziy.hv (x:ziy):HV:=.agg [.p (pi x.last),.p (pi x.hand),.p (.sl 1 (x.had.map (fun n=>[pi n])))]
structure zbr where
 number:Int
 id:Int
 state:Int
 path:Int
 missed:Int
 times:Int
 came:Int
 life:Int
 tries:Int
 chunk:Chunk
def zbr.row (x:zbr):List PV:=[pi x.number,pi x.id,pi x.state,pi x.path,pi x.missed,pi x.times,pi x.came,pi x.life,pi x.tries,pi x.chunk.kind,pi x.chunk.tag,pi x.chunk.stream,pi x.chunk.mid,pi x.chunk.part,pb x.chunk.last,pb x.chunk.ordered,.sl 1 (x.chunk.data.map zdu),.sl 2 (x.chunk.zau.map Span.row),pi x.chunk.room,.sl 3 (x.chunk.zbw.map zga.row)]
def zbr.hv (x:zbr):HV:=.agg [.p (pi x.number),.p (pi x.id),.p (pi x.state),.p (pi x.path),.p (pi x.missed),.p (pi x.times),.p (pi x.came),.p (pi x.life),.p (pi x.tries),.p (pi x.chunk.kind),.p (pi x.chunk.tag),.p (pi x.chunk.stream),.p (pi x.chunk.mid),.p (pi x.chunk.part),.p (pb x.chunk.last),.p (pb x.chunk.ordered),.p (.sl 1 (x.chunk.data.map zdu)),.p (.sl 2 (x.chunk.zau.map Span.row)),.p (pi x.chunk.room),.p (.sl 3 (x.chunk.zbw.map zga.row))]
structure Path where
 window:Int
 slow:Int
 gathered:Int
 zak:Int
 errors:Int
 zcj:Int
 wait:Int
def Path.row (x:Path):List PV:=[pi x.window,pi x.slow,pi x.gathered,pi x.zak,pi x.errors,pi x.zcj,pi x.wait]
def Path.hv (x:Path):HV:=.agg [.p (pi x.window),.p (pi x.slow),.p (pi x.gathered),.p (pi x.zak),.p (pi x.errors),.p (pi x.zcj),.p (pi x.wait)]
structure zay where
 number:Int
 chunk:Chunk
def zay.row (x:zay):List PV:=[pi x.number,pi x.chunk.kind,pi x.chunk.tag,pi x.chunk.stream,pi x.chunk.mid,pi x.chunk.part,pb x.chunk.last,pb x.chunk.ordered,.sl 1 (x.chunk.data.map zdu),.sl 2 (x.chunk.zau.map Span.row),pi x.chunk.room,.sl 3 (x.chunk.zbw.map zga.row)]
def zay.hv (x:zay):HV:=.agg [.p (pi x.number),.p (pi x.chunk.kind),.p (pi x.chunk.tag),.p (pi x.chunk.stream),.p (pi x.chunk.mid),.p (pi x.chunk.part),.p (pb x.chunk.last),.p (pb x.chunk.ordered),.p (.sl 1 (x.chunk.data.map zdu)),.p (.sl 2 (x.chunk.zau.map Span.row)),.p (pi x.chunk.room),.p (.sl 3 (x.chunk.zbw.map zga.row))]
structure zcs where
 stream:Int
 mid:Int
 ordered:Bool
 data:List UInt8
def zcs.row (x:zcs):List PV:=[pi x.stream,pi x.mid,pb x.ordered,.sl 1 (x.data.map zdu)]
structure Receiver where
 config:Config
 cum:Int
 zau:List Span
 pieces:List zay
 zbp:List Int
 log:List zcs
def Receiver.hv (x:Receiver):HV:=.agg [.p (pi x.config.streams),.p (pi x.config.part),.p (pi x.config.packet),.p (pi x.config.paths),.p (pi x.config.turns),.p (pi x.config.waiting),.p (pi x.config.first),.p (pi x.cum),.p (.sl 2 (x.zau.map Span.row)),.p (.sl 12 (x.pieces.map zay.row)),.p (.sl 1 (x.zbp.map (fun n=>[pi n]))),.p (.sl 4 (x.log.map zcs.row))]
structure zbb where
 path:Int
 back:Bool
 bytes:List UInt8
def zbb.row (x:zbb):List PV:=[pi x.path,pb x.back,.sl 1 (x.bytes.map zdu)]
def zbb.cells (x:zbb):List HV:=[.p (pi x.path),.p (pb x.back),.p (.sl 1 (x.bytes.map zdu))]
def zbb.hv (x:zbb):HV:=.agg [.p (pi x.path),.p (pb x.back),.p (.sl 1 (x.bytes.map zdu))]
structure zab where
 config:Config
 clock:Int
 queue:List zaf
 sched:ziy
 out:List zbr
 paths:List Path
 cum:Int
 next:Int
 room:Int
 mids:List Int
 fates:List Int
 forward:Bool
 recover:Int
def zab.hv (x:zab):HV:=.agg [.p (pi x.config.streams),.p (pi x.config.part),.p (pi x.config.packet),.p (pi x.config.paths),.p (pi x.config.turns),.p (pi x.config.waiting),.p (pi x.config.first),.p (pi x.clock),.p (.sl 10 (x.queue.map zaf.row)),.p (pi x.sched.last),.p (pi x.sched.hand),.p (.sl 1 (x.sched.had.map (fun n=>[pi n]))),.p (.sl 20 (x.out.map zbr.row)),.p (.sl 7 (x.paths.map Path.row)),.p (pi x.cum),.p (pi x.next),.p (pi x.room),.p (.sl 1 (x.mids.map (fun n=>[pi n]))),.p (.sl 1 (x.fates.map (fun n=>[pi n]))),.p (pb x.forward),.p (pi x.recover)]
structure zdq where
 sender:zab
 receiver:Receiver
 way:List zbb
def zdq.cells (x:zdq):List HV:=[.p (pi x.sender.config.streams),.p (pi x.sender.config.part),.p (pi x.sender.config.packet),.p (pi x.sender.config.paths),.p (pi x.sender.config.turns),.p (pi x.sender.config.waiting),.p (pi x.sender.config.first),.p (pi x.sender.clock),.p (.sl 10 (x.sender.queue.map zaf.row)),.p (pi x.sender.sched.last),.p (pi x.sender.sched.hand),.p (.sl 1 (x.sender.sched.had.map (fun n=>[pi n]))),.p (.sl 20 (x.sender.out.map zbr.row)),.p (.sl 7 (x.sender.paths.map Path.row)),.p (pi x.sender.cum),.p (pi x.sender.next),.p (pi x.sender.room),.p (.sl 1 (x.sender.mids.map (fun n=>[pi n]))),.p (.sl 1 (x.sender.fates.map (fun n=>[pi n]))),.p (pb x.sender.forward),.p (pi x.sender.recover),.p (pi x.receiver.config.streams),.p (pi x.receiver.config.part),.p (pi x.receiver.config.packet),.p (pi x.receiver.config.paths),.p (pi x.receiver.config.turns),.p (pi x.receiver.config.waiting),.p (pi x.receiver.config.first),.p (pi x.receiver.cum),.p (.sl 2 (x.receiver.zau.map Span.row)),.p (.sl 12 (x.receiver.pieces.map zay.row)),.p (.sl 1 (x.receiver.zbp.map (fun n=>[pi n]))),.p (.sl 4 (x.receiver.log.map zcs.row)),.p (.sl 3 (x.way.map zbb.row))]
def zdq.hv (x:zdq):HV:=.agg [.p (pi x.sender.config.streams),.p (pi x.sender.config.part),.p (pi x.sender.config.packet),.p (pi x.sender.config.paths),.p (pi x.sender.config.turns),.p (pi x.sender.config.waiting),.p (pi x.sender.config.first),.p (pi x.sender.clock),.p (.sl 10 (x.sender.queue.map zaf.row)),.p (pi x.sender.sched.last),.p (pi x.sender.sched.hand),.p (.sl 1 (x.sender.sched.had.map (fun n=>[pi n]))),.p (.sl 20 (x.sender.out.map zbr.row)),.p (.sl 7 (x.sender.paths.map Path.row)),.p (pi x.sender.cum),.p (pi x.sender.next),.p (pi x.sender.room),.p (.sl 1 (x.sender.mids.map (fun n=>[pi n]))),.p (.sl 1 (x.sender.fates.map (fun n=>[pi n]))),.p (pb x.sender.forward),.p (pi x.sender.recover),.p (pi x.receiver.config.streams),.p (pi x.receiver.config.part),.p (pi x.receiver.config.packet),.p (pi x.receiver.config.paths),.p (pi x.receiver.config.turns),.p (pi x.receiver.config.waiting),.p (pi x.receiver.config.first),.p (pi x.receiver.cum),.p (.sl 2 (x.receiver.zau.map Span.row)),.p (.sl 12 (x.receiver.pieces.map zay.row)),.p (.sl 1 (x.receiver.zbp.map (fun n=>[pi n]))),.p (.sl 4 (x.receiver.log.map zcs.row)),.p (.sl 3 (x.way.map zbb.row))]
structure Step where
 kind:Int
 n:Int
 message:Message
def Step.row (x:Step):List PV:=[pi x.kind,pi x.n,pi x.message.stream,pb x.message.ordered,pi x.message.life,pi x.message.tries,.sl 1 (x.message.data.map zdu)]
def Step.hv (x:Step):HV:=.agg [.p (pi x.kind),.p (pi x.n),.p (pi x.message.stream),.p (pb x.message.ordered),.p (pi x.message.life),.p (pi x.message.tries),.p (.sl 1 (x.message.data.map zdu))]
structure Answer where
 err:Int
 n:Int
def Answer.row (x:Answer):List PV:=[pi x.err,pi x.n]
def Answer.hv (x:Answer):HV:=.agg [.p (pi x.err),.p (pi x.n)]
end Go.HL
namespace Go.HL
theorem zjd {rows:List (List PV)} {o n o' n':Nat} {K:List (List PV)->Prop} (ho:o=o') (hn:n=n') (h:zrk rows o' n' K):zrk rows o n K:=by subst ho;subst hn;exact h
theorem zsy {z:Int} (h1:0<=z) (h2:z<18446744073709551616):IntKind.u64.wrap z=z:=by
 unfold IntKind.wrap;simp [IntKind.bits,IntKind.signed];omega
theorem zbl {k:IntKind} {z z':Int} {K:Int->Prop} (h:k.wrap z=z') (hk:K z'):zms k z K:=⟨z',h.symm,hk⟩
theorem xdk {z:Int} {K:Int->Prop} (h:K (W z)):zms .i64 z K:=⟨_,rfl,h⟩
theorem ziw {α:Type} {t n:Nat} {f:α->List PV} {a b:List α} {x:α} (h:a++[x]=b):zad.live (.row t n (b.map f))=zad.live (.row t n (a.map f++[f x])):=by
 rw [<- h,zy36];rfl
theorem zca {α:Type} {t n:Nat} {f:α->List PV} {a b:List α} {x:α} {r:List PV} (h:b=a++[x]) (hr:f x=r):zad.live (.row t n (a.map f++[r]))=zad.live (.row t n (b.map f)):=by
 rw [h,zy36,<- hr];rfl
theorem zal {α:Type} {f:α->List PV} {l a b:List α} {s:α} {z:Int} {K:List PV->Prop} (h:l=a++s::b) (hz:z=a.length) (hk:K (f s)):zvy (l.map f) z K:=by
 subst h;exact ⟨_,by omega,by rw [hz,zy40,zy10,zy50 (zy22 _)];simp,hk⟩
theorem zer {α:Type} {t n:Nat} {f:α->List PV} {a b:List α} {x y:α} {k:Nat} {r:List PV} (hk:k=a.length) (hr:f y=r) :
 zad.live (.row t n ((a++y::b).map f))=zad.live (.row t n (((a++x::b).map f).set k r)):=by
 subst hk;subst hr;have:((a++x::b).map f).set a.length (f y)=(a++y::b).map f:=by
  induction a with
  | nil=>rfl
  | cons z a ih=>simp only [zy38,zy24,zy5,zy114];rw [ih]
 rw [this]
theorem zbt {rows:List (List PV)} {k:Nat} {r:List PV} {z:Int} {K:List PV->Prop} (hz:z=k) (h:k<rows.length) (hk:K r):zvy (rows.set k r) z K :=
 ⟨r,by omega,by rw [hz,zy40,zy27 h],hk⟩
theorem yzg {α:Type} {t n:Nat} {f:α->List PV} {a b:List α} {x y:α} {k:Nat} {r r':List PV} (hk:k=a.length) (hr:f y=r) :
 zad.live (.row t n ((a++y::b).map f))=zad.live (.row t n ((((a++x::b).map f).set k r').set k r)):=by
 rw [zy148];exact zer hk hr
theorem zcw {α:Type} {l a:List α} (h:l=a++[]):l.length=a.length:=by rw [h];simp
theorem zcf {α:Type} {l a b:List α} {s:α} (h:l=a++s::b):l.length=a.length+b.length+1:=by rw [h];simp;omega
theorem zar {α:Type} {l a b:List α} {s:α} (h:l=a++s::b):l=(a++[s])++b:=by rw [h];simp
theorem zks {α:Type} {l a b:List α} {s:α} (h:l=a++s::b):s∈l:=by rw [h];simp
theorem zaq {t n:Nat} {a b:List (List PV)} (h:a=b):zad.live (.row t n a)=zad.live (.row t n b):=by rw [h]
theorem zbj {a b:Int} (h:a=b):i64 a=i64 b:=by rw [h]
theorem zci {P:Program} {f:FuncId} {fn:Func} (_:P.funcs[f]?=some fn) {args:List HV} {r r':HV} {L:List (Nat×zad)} (h:zao P f args zae r (lk .free L))
 (hk:zgg (lk .free L) r fun y _=>ztx (znp P fn.resultTypes.toList y) fun y=>y=r'):zao P f args zae r' zae:=by
 intro Γ m w vals hok hargs h0;obtain ⟨h1,h2⟩:=h Γ m w vals hok hargs h0;refine ⟨h1,h2.mono fun e w' he=>?_⟩;obtain ⟨v,m',rfl,hok',hv,hp⟩:=he;obtain ⟨y,us,hy,hview⟩:=zjp _ hk;rw [zty] at hy;subst hy;have hws:=WS.frz hok' hview.frz;have hy:=hview.rep m' w' _ v (WS.kept hview.frz hws.ok) (hws.rep hv);have hRn:∀ b,RR Γ m' (zea (lk .free L) us) w' b->RR Γ (fun _=>none) zae w' b:=fun b hb=>⟨hb.1,hb.2.1,yac⟩
 refine ⟨v,fun _=>none,rfl,⟨hok'.size,hok'.os,hok'.tape,hok'.output,hok'.frame,fun _ _=>rfl,(fun id b hb=>by cases hb),(fun id b hb=>by cases hb),(fun id id' b b' l l' hb=>by cases hb),hok'.dom⟩,?_,fun id l _ hl=>?_⟩
 . refine zax.znp _ ?_
   refine ymk (σ:=zqg) (m:=m') (R:=RR Γ m' (zea (lk .free L) us) w') (fun i j hj=>by cases hj) (fun i hj=>by cases hj) hRn _ v hview.noid ?_;rw [yan _ hview.noid];exact hy
 . rw [hok.free id rfl] at hl;cases hl
theorem zht {X:HS->(HX->HS->Prop)->Prop} {s:HS} {Q:HX->HS->Prop} (h:∀ Q':HX->HS->Prop,(∀ e s',Q e s'->Q' e s')->X s Q'):X s Q:=h Q fun _ _ h=>h
end Go.HL
namespace Go.HL
namespace Srt
section
variable {α:Type} (key:α->Int)
def ins (x:α):List α->List α
 | []=>[x]
 | y::r=>if key x<=key y then x::y::r else y::ins x r
def srt:List α->List α
 | []=>[]
 | x::r=>ins key x (srt r)
def mrg:List α->List α->List α
 | [],v=>v
 | x::u,[]=>x::u
 | x::u,y::v=>if key x<=key y then x::mrg u (y::v) else y::mrg (x::u) v
termination_by u v=>u.length+v.length
def Sd:List α->Prop
 | []=>True
 | x::r=>(∀ y∈r,key x<=key y)/\Sd r
variable {key}
theorem ysl {x z:α}:∀ {l:List α},z∈ins key x l↔z=x\/z∈l
 | []=>by simp [ins]
 | y::r=>by
  rw [ins];split
  . simp
  . simp only [zy18,ysl (l:=r)]
    constructor
    . rintro (h | h | h)
      . exact .inr (.inl h)
      . exact .inl h
      . exact .inr (.inr h)
    . rintro (h | h | h)
      . exact .inr (.inl h)
      . exact .inl h
      . exact .inr (.inr h)
theorem yll {x:α}:∀ {l:List α},(ins key x l).Perm (x::l)
 | []=>List.Perm.refl _
 | y::r=>by
  rw [ins];split
  . exact List.Perm.refl _
  . exact ((yll (l:=r)).cons y).trans (List.Perm.swap x y r)
theorem zpf:∀ {l:List α},(srt key l).Perm l
 | []=>List.Perm.refl _
 | x::r=>yll.trans ((zpf (l:=r)).cons x)
theorem zjx (l:List α):(srt key l).length=l.length:=zpf.length_eq
theorem xat {x:α}:∀ {l:List α},Sd key l->Sd key (ins key x l)
 | [],_=>by simp [ins,Sd]
 | y::r,h=>by
  rw [ins];split
  . rename_i c
    refine ⟨fun z hz=>?_,h⟩;rcases zy18.1 hz with rfl | hz
    . exact c
    . exact Int.le_trans c (h.1 z hz)
  . rename_i c
    refine ⟨fun z hz=>?_,xat h.2⟩;rcases ysl.1 hz with rfl | hz
    . omega
    . exact h.1 z hz
theorem zvm:∀ {l:List α},Sd key (srt key l)
 | []=>trivial
 | _::r=>xat (zvm (l:=r))
theorem znn:∀ (u:List α),mrg key u []=u
 | []=>by rw [mrg]
 | x::u=>by rw [mrg]
theorem ysy (x:α):∀ (v:List α),mrg key [x] v=ins key x v
 | []=>by rw [mrg,ins]
 | y::v=>by
  rw [mrg,ins];split
  . rw [mrg]
  . rw [ysy x v]
theorem ysk {x:α} {l:List α} (h:∀ y∈l,key x<=key y):ins key x l=x::l:=by
 cases l with
 | nil=>rfl
 | cons y r=>rw [ins,zy1 (h y (by simp))]
theorem ysx {z:α} (u v:List α):z∈mrg key u v↔z∈u\/z∈v:=by
 fun_induction mrg key u v with
 | case1 v=>simp
 | case2 x u=>simp
 | case3 x u y v h ih =>
  have e:z∈x::mrg key u (y::v)↔z=x\/z∈u\/z=y\/z∈v:=by rw [zy18,ih,zy18]
  rw [e,zy18,zy18,or_assoc]
 | case4 x u y v h ih =>
  have e:z∈y::mrg key (x::u) v↔z=y\/(z=x\/z∈u)\/z∈v:=by rw [zy18,ih,zy18]
  rw [e,zy18,zy18,or_left_comm]
theorem xdp (x:α) (u v:List α) (hu:Sd key u) (hv:Sd key v):mrg key (ins key x u) v=ins key x (mrg key u v):=by
 fun_induction mrg key u v with
 | case1 v=>rw [ins,ysy]
 | case2 y u=>rw [znn]
 | case3 y u z v h ih =>
  by_cases c:key x<=key y
  . rw [ins,zy1 c,mrg,zy1 (by omega),mrg,zy1 h,ins,zy1 c]
  . rw [ins,zy0 c,mrg,zy1 h,ih hu.2 hv,ins,zy0 c]
 | case4 y u z v h ih =>
  by_cases c:key x<=key z
  . have c2:key x<=key y:=by omega
    rw [ins,zy1 c2,mrg,zy1 c,mrg,zy0 h,ins,zy1 c]
  . have hi:=ih hu hv.2
    rw [show ins key x (z::mrg key (y::u) v)=z::ins key x (mrg key (y::u) v) by rw [ins,zy0 c],<- hi];by_cases c2:key x<=key y
    . rw [show ins key x (y::u)=x::y::u by rw [ins,zy1 c2],mrg,zy0 c]
    . rw [show ins key x (y::u)=y::ins key x u by rw [ins,zy0 c2],mrg,zy0 h]
theorem ysz (u v:List α) (hu:Sd key u) (hv:Sd key v):Sd key (mrg key u v):=by
 fun_induction mrg key u v with
 | case1 v=>exact hv
 | case2 y u=>exact hu
 | case3 y u z v h ih =>
  refine ⟨fun a ha=>?_,ih hu.2 hv⟩;rcases (ysx u (z::v)).1 ha with ha | ha
  . exact hu.1 a ha
  . rcases zy18.1 ha with rfl | ha
    . exact h
    . have:=hv.1 a ha;omega
 | case4 y u z v h ih =>
  refine ⟨fun a ha=>?_,ih hu hv.2⟩;rcases (ysx (y::u) v).1 ha with ha | ha
  . rcases zy18.1 ha with rfl | ha
    . omega
    . have:=hu.1 a ha;omega
  . exact hv.1 a ha
theorem zno (v:List α):∀ (u:List α),mrg key (srt key u) (srt key v)=srt key (u++v)
 | []=>by rw [srt,mrg];rfl
 | x::u=>by rw [srt,xdp x _ _ zvm zvm,zno v u];rfl
theorem zln {u2 v2:List α} (u1 v1:List α) (h1:∀ a∈u1,∀ b∈v2,key a<=key b) (h2:∀ b∈v1,∀ a∈u2,key b<key a) :
 mrg key (u1++u2) (v1++v2)=mrg key u1 v1++mrg key u2 v2:=by
 fun_induction mrg key u1 v1 with
 | case1 v =>
  clear h1
  induction v with
  | nil=>rfl
  | cons y v ih =>
   have ih:=ih (fun b hb=>h2 b (by simp [hb]));cases u2 with
   | nil=>simp [mrg]
   | cons a u =>
    have:=h2 y zz4 a zz4;rw [zy92,zy38,mrg,zy0 (by omega)];rw [zy92] at ih;rw [ih];rfl
 | case2 x u =>
  have hh:∀ u:List α,(∀ a∈u,∀ b∈v2,key a<=key b)->mrg key (u++u2) v2=u++mrg key u2 v2:=by
   intro u h
   induction u with
   | nil=>rfl
   | cons x u ih =>
    cases v2 with
    | nil=>rw [znn,znn]
    | cons b v =>
     rw [zy38,mrg,zy1 (h x (by simp) b (by simp)),ih (fun a ha=>h a (by simp [ha]))];rfl
  exact hh (x::u) h1
 | case3 x u y v h ih =>
  rw [zy38,zy38,mrg,zy1 h,zy38];rw [<- zy38,ih (fun a ha=>h1 a (by simp [ha])) h2]
 | case4 x u y v h ih =>
  rw [zy38,zy38,mrg,zy0 h,zy38];rw [<- zy38,ih h1 (fun b hb=>h2 b (by simp [hb]))]
theorem yec {a b:List α} {y:α} (h1:∀ x∈a,key x<=key y) (h2:∀ x∈b,key y<key x):mrg key (a++b) [y]=a++y::b:=by
 have e1:=zln (key:=key) (u2:=b) (v2:=[]) a [y] zz4 (by simpa using h2);have e2:=zln (key:=key) (u2:=[]) (v2:=[y]) a [] (by simpa using h1) zz4;rw [zy8,zy92,znn,mrg] at e2;rw [zy8,znn,e2] at e1
 simpa using e1
theorem yya {a b:List α} {y:α} (h1:∀ x∈a,key x<key y) (h2:∀ x∈b,key y<=key x):mrg key [y] (a++b)=a++y::b:=by
 have e1:=zln (key:=key) (u2:=[y]) (v2:=b) [] a zz4 (by simpa using h1);have e2:=zln (key:=key) (u2:=[]) (v2:=b) [y] [] (by simpa using h2) zz4;rw [zy92,mrg] at e1;rw [zy8,zy92,znn,mrg] at e2;rw [e1,e2];rfl
theorem yfg:∀ {a b:List α},Sd key (a++b)↔Sd key a/\Sd key b/\∀ x∈a,∀ y∈b,key x<=key y
 | [],b=>by simp [Sd]
 | s::a,b=>by
  simp only [zy38,Sd,yfg (a:=a) (b:=b),zy17,zy18]
  constructor
  . rintro ⟨h1,h2,h3,h4⟩
    exact ⟨⟨fun y hy=>h1 y (.inl hy),h2⟩,h3,fun x hx y hy=>by rcases hx with rfl | hx;exact h1 y (.inr hy);exact h4 x hx y hy⟩
  . rintro ⟨⟨h1,h2⟩,h3,h4⟩
    exact ⟨fun y hy=>by rcases hy with hy | hy;exact h1 y hy;exact h4 s (.inl rfl) y hy,h2,h3,fun x hx=>h4 x (.inr hx)⟩
theorem zxz {l:List α} (h:Sd key l) {i j:Nat} (hj:j<l.length) (hij:i<=j):key (l[i]'zz0)<=key l[j]:=by
 induction l generalizing i j with
 | nil=>simp at hj
 | cons _ r ih =>
  cases j with
  | zero =>
   obtain rfl:i=0:=by omega
   exact zy99 _
  | succ j =>
   cases i with
   | zero=>simpa using h.1 _ (zy83 zz78)
   | succ i=>simpa using ih h.2 zz78 zz0
theorem zjy:∀ {l:List α},Sd key l->srt key l=l
 | [],_=>rfl
 | x::r,h=>by rw [srt,zjy h.2,ysk h.1]
theorem yzo (u:List α) (x:α):srt key (u++[x])=mrg key (srt key u) [x]:=by rw [<- zno];rfl
end
end Srt
namespace Srt
theorem yir {α:Type} {A B:List α} {x y:α} {i:Nat} (h:i=A.length):(A++x::B).set i y=A++y::B:=by
 subst h
 induction A with
 | nil=>rfl
 | cons a A ih=>simp only [zy38,zy5,zy114,ih]
theorem yaq {α:Type} {t n:Nat} {f:α->List PV} {l l' A B C:List α} {x y:α} {i j:Nat} {r s:List PV} (h:l=A++x::(B++y::C)) (h':l'=A++y::(B++x::C)) (hi:i=A.length) (hj:j=A.length+1+B.length) (hr:f y=r) (hs:f x=s) :
 zad.live (.row t n (((l.map f).set i r).set j s))=zad.live (.row t n (l'.map f)):=by
 subst h h' hr hs;rw [<- zy107,<- zy107,yir hi,show A++y::(B++y::C)=(A++y::B)++y::C by simp,yir (by simp;omega)];simp
theorem yey {α:Type} {t n:Nat} {f:α->List PV} {l l' A B C:List α} {x y:α} {i j:Nat} {r s:List PV} (h:l=A++x::(B++y::C)) (h':l'=A++y::(B++x::C)) (hi:i=A.length) (hj:j=A.length+1+B.length) (hr:f y=r) (hs:f x=s) :
 zad.live (.row t n (((l.map f).set j s).set i r))=zad.live (.row t n (l'.map f)):=by
 rw [List.set_comm _ _ (by omega)];exact yaq h h' hi hj hr hs
theorem zir {α:Type} {f:α->List PV} {l A B:List α} {y:α} {i:Nat} {r:List PV} {z:Int} {K:List PV->Prop} (h:l=A++y::B) (hz:z=A.length) (hi:i≠A.length) (hk:K (f y)):zvy ((l.map f).set i r) z K :=
 ⟨f y,by omega,by rw [hz,zy40,zy45 hi,h];simp,hk⟩
abbrev ck (p:zay):Int:=p.chunk.part
abbrev H1 (l:List zay):List (Nat×zad):=[(1000,.live (.row 162 12 (l.map zay.row)))]
def cmp (a b:zay):Int:=if ck a<ck b then -1 else if ck a>ck b then 1 else 0
def ybq (g:FuncId):Prop:=∀ a b:zay,zao Tryz.prog g [a.hv,b.hv] zae (i64 (cmp a b)) zae
theorem zla {a b:zay}:cmp a b<0↔ck a<ck b:=by unfold cmp;split<;>(try split)<;>omega
theorem yvl {g:FuncId} (P M Q X Y:List zay) (hxy:X.length=Y.length) (hb:(P++X++M++Y++Q).length<2 ^ 40) (a b n:Int) (ha:a=P.length) (hb':b=(P++X++M).length) (hn:n=X.length) :
 zao Tryz.prog 220 [.own 1000,i64 a,i64 b,i64 n,.clo g []] (lk .free (H1 (P++X++M++Y++Q))) (.tup []) (lk .free (H1 (P++Y++M++X++Q))):=by
 refine zan mixed Tryz.func220 zz5 [1000] zbi ?_;(conv=>whnf);refine ⟨{x:(List zay×List zay)×(List zay×List zay) // X=x.1.1++x.1.2/\Y=x.2.1++x.2.2/\x.1.1.length=x.2.1.length},fun | ⟨((X1,X2),(Y1,Y2)),_⟩=>hsP [1000] 38 [(0,.own 1000),(1,i64 a),(2,i64 b),(3,i64 n),(10,i64 X1.length)] (H1 (P++Y1++X2++M++X1++Y2++Q)),fun x=>x.1.1.2.length,⟨(([],X),([],Y)),rfl,rfl,rfl⟩,?_,?_⟩
 . exact (zbu [(1000,some 1000)] (by repeat' (first | exact z0 | refine z1 ?_ | refine ⟨?_,?_⟩ | ((exact zaq (by simp))) | exact z2)))
 rintro ⟨⟨⟨X1,X2⟩,⟨Y1,Y2⟩⟩,hX,hY,h12⟩;dsimp only at hX hY h12;have lX:X.length=X1.length+X2.length:=by rw [hX];simp
 have lY:Y.length=Y1.length+Y2.length:=by rw [hY];simp
 simp only [zy6] at hb hb';(conv=>whnf);cases X2 with
 | nil =>
  have:Y2=[]:=zy21 (by rw [zy14] at lX;omega);subst this;rw [zy14] at lX;rw [zy8] at hX hY;subst hX hY;refine sN ?_;refine zam [(1000,some 1000)] rfl rfl ⟨rfl,trivial⟩ rfl rfl ⟨⟨rfl,.inl ⟨1000,rfl,?_⟩⟩,trivial⟩;exact zaq zz4
 | cons x X2 =>
  cases Y2 with
  | nil=>simp at lX lY;omega
  | cons y Y2 =>
   rw [zy5] at lX lY;have e1:P++Y1++x::X2++M++X1++y::Y2++Q=(P++Y1)++x::((X2++M++X1)++y::(Y2++Q)):=by simp
   have e2:P++Y1++x::X2++M++X1++y::Y2++Q=(P++Y1++x::X2++M++X1)++y::(Y2++Q):=by simp
   refine sT ?_;refine sF ?_;refine sF ?_;refine sF ?_;refine sO ?_;refine zal e2 ?_ ?_
   . simp;omega
   (conv=>whnf);refine sF ?_;refine sO ?_;refine zal e1 ?_ ?_
   . simp;omega
   (conv=>whnf);refine sO ?_;refine zal e1 ?_ ?_
   . simp;omega
   (conv=>whnf);refine sO ?_;refine zir e2 ?_ ?_ ?_
   . simp;omega
   . simp;omega
   (conv=>whnf);refine sD ?_;refine sF ?_;refine ⟨⟨((X1++[x],X2),(Y1++[y],Y2)),by rw [hX];simp,by rw [hY];simp,by simp;omega⟩,(zbu [(1000,some 1000)] (by repeat' (first | exact z0 | refine z1 ?_ | refine ⟨?_,?_⟩ | ((refine yaq e1 (by simp) ?_ ?_ rfl rfl<;>(simp;try omega))) | exact z2))),by simp⟩
theorem zlx {g:FuncId} {L L':List zay} (P M Q X Y:List zay) (h1:L=P++X++M++Y++Q) (h2:L'=P++Y++M++X++Q) (hxy:X.length=Y.length) (hb:L.length<2 ^ 40) (a b n:Int) (ha:a=P.length) (hb':b=(P++X++M).length) (hn:n=X.length) :
 zao Tryz.prog 220 [.own 1000,i64 a,i64 b,i64 n,.clo g []] (lk .free (H1 L)) (.tup []) (lk .free (H1 L')):=by
 subst h1 h2;exact yvl P M Q X Y hxy hb a b n ha hb' hn
theorem yja {g:FuncId} (P Q U V:List zay) (hU:U≠[]) (hV:V≠[]) (hb:(P++U++V++Q).length<2 ^ 40) (a m b:Int) (ha:a=P.length) (hm:m=(P++U).length) (hb':b=(P++U++V).length) :
 zao Tryz.prog 219 [.own 1000,i64 a,i64 m,i64 b,.clo g []] (lk .free (H1 (P++U++V++Q))) (.tup []) (lk .free (H1 (P++V++U++Q))):=by
 refine zan mixed Tryz.func219 zz5 [1000] zbi ?_;simp only [zy6] at hb hm hb';have hU0:=zy32.2 hU;have hV0:=zy32.2 hV;generalize hT:P++V++U++Q=T;(conv=>whnf);refine sF ?_;refine sF ?_;refine ⟨{x:(List zay×List zay)×(List zay×List zay) // x.1.1++x.2.1++x.1.2++x.2.2=T/\x.1.1.length+x.1.2.length=P.length+U.length/\0<x.1.2.length/\0<x.2.1.length/\x.1.1.length+x.1.2.length+x.2.1.length+x.2.2.length=P.length+U.length+V.length+Q.length},
  fun | ⟨((P',U'),(V',Q')),_⟩=>hsP [1000] 58 [(0,.own 1000),(2,i64 m),(4,.clo g []),(10,i64 U'.length),(11,i64 V'.length)] (H1 (P'++U'++V'++Q')),fun x=>x.1.1.2.length+x.1.2.1.length,⟨((P,U),(V,Q)),by simpa using hT,rfl,hU0,hV0,rfl⟩,?_,?_⟩
 . exact (zbu [(1000,some 1000)] (by repeat' (first | exact z0 | refine z1 ?_ | refine ⟨?_,?_⟩ | ((exact zbj (by omega))) | exact z2)))
 clear hT hU hV;rintro ⟨⟨⟨P',U'⟩,⟨V',Q'⟩⟩,h1,h2,h3,h4,h5⟩;dsimp only at h1 h2 h3 h4 h5;subst hm;(conv=>whnf);by_cases c:U'.length=V'.length
 . refine sN ?_
   refine sF ?_
   (refine zac [] [(1000,1000)] [] ?_;(conv=>whnf);refine dG (zlx (L:=P'++U'++V'++Q') (L':=T) P' [] Q' U' V' zz4 (by rw [<- h1];simp) c zz3 _ _ _ zz3 zz3 rfl) ?_ ⟨rfl,rfl,rfl,⟨zz1,trivial⟩,trivial,rfl,rfl,rfl⟩)
   exact yy27
 . refine sT ?_
   by_cases c2:U'.length>V'.length
   . obtain ⟨A,B,rfl,hA⟩:∃ A B,U'=A++B/\A.length=V'.length:=⟨U'.take V'.length,U'.drop V'.length,by simp,by simp;omega⟩
     simp only [zy6] at h2 h3 h5 c c2;refine zai zz3 (zw ?_)
     try refine sG ?_
     refine sF ?_
     (refine zac [] [(1000,1000)] [] ?_;(conv=>whnf);refine dG (zlx (L:=P'++(A++B)++V'++Q') (L':=P'++V'++B++A++Q') P' B Q' A V' zz4 rfl hA om _ _ _ om om om) ?_ ⟨rfl,rfl,rfl,⟨zz1,trivial⟩,trivial,rfl,rfl,rfl⟩)
     refine sF ?_;refine ⟨⟨((P'++V',B),(A,Q')),by rw [<- h1];simp,by simp;omega,by dsimp only;omega,by dsimp only;omega,by simp;omega⟩,(zbu [(1000,some 1000)] zz2),by simp;omega⟩
   . obtain ⟨A,B,rfl,hB⟩:∃ A B,V'=A++B/\B.length=U'.length:=⟨V'.take (V'.length-U'.length),V'.drop (V'.length-U'.length),by simp,by simp;omega⟩
     simp only [zy6] at h2 h4 h5 c c2;refine zag zz3 (zw ?_)
     try refine sG ?_
     refine sF ?_;refine sF ?_;refine sF ?_
     (refine zac [] [(1000,1000)] [] ?_;(conv=>whnf);refine dG (zlx (L:=P'++U'++(A++B)++Q') (L':=P'++B++A++U'++Q') P' A Q' U' B zz4 rfl hB.symm om _ _ _ om om om) ?_ ⟨rfl,rfl,rfl,⟨zz1,trivial⟩,trivial,rfl,rfl,rfl⟩)
     refine sF ?_;refine ⟨⟨((P',B),(A,U'++Q')),by rw [<- h1];simp,by simp;omega,by dsimp only;omega,by dsimp only;omega,by simp;omega⟩,(zbu [(1000,some 1000)] zz14),by simp;omega⟩
theorem zgt {α:Type} (l:List α):l=[]\/∃ a x,l=a++[x]:=by
 rcases zy135 l with h | ⟨a,x,h⟩
 . exact .inl h
 . exact .inr ⟨a,x,by rw [h,zy117]⟩
theorem ypf {g:FuncId} (hg:ybq g) (P X Q:List zay) (hb:(P++X++Q).length<2 ^ 40) (a b:Int) (ha:a=P.length) (hb':b=(P++X).length) :
 zao Tryz.prog 217 [.own 1000,i64 a,i64 b,.clo g []] (lk .free (H1 (P++X++Q))) (.tup []) (lk .free (H1 (P++srt ck X++Q))):=by
 refine zan mixed Tryz.func217 zz5 [1000] zbi ?_;simp only [zy6] at hb hb';(conv=>whnf);refine sF ?_;cases X with
 | nil =>
  refine ⟨Unit,fun _=>hsP [1000] 53 [(0,.own 1000),(1,i64 a),(2,i64 b),(3,.clo g []),(8,i64 (a+1))] (H1 (P++[]++Q)),fun _=>0,(),?_,fun _=>?_⟩
  . exact (zcx [(1000,some 1000)])
  (conv=>whnf);refine zag (by simp at hb' ⊢;omega) (zw ?_)
  try refine sG ?_
  exact yy27
 | cons x0 X =>
  refine ⟨{x:List zay×List zay // x0::X=x.1++x.2/\0<x.1.length},fun | ⟨(A,B),_⟩=>hsP [1000] 53 [(0,.own 1000),(1,i64 a),(2,i64 b),(3,.clo g []),(8,i64 (P.length+A.length:Nat))] (H1 (P++srt ck A++B++Q)),fun x=>x.1.2.length,⟨([x0],X),rfl,by simp⟩,?_,?_⟩
  . exact (zbu [(1000,some 1000)] (by repeat' (first | exact z0 | refine z1 ?_ | refine ⟨?_,?_⟩ | ((exact zbj om)) | ((exact zaq (by simp [srt,ins]))) | exact z2)))
  rintro ⟨⟨A,B⟩,h,hA⟩;dsimp only at h hA;have hl:(x0::X).length=A.length+B.length:=by rw [h];simp
  rw [hl] at hb hb';have hS:=zjx (key:=ck) A;(conv=>whnf);cases B with
  | nil =>
   rw [zy14] at hb hb';rw [zy8] at h;refine sN ?_;refine zam [(1000,some 1000)] rfl rfl ⟨rfl,trivial⟩ rfl rfl ⟨⟨rfl,.inl ⟨1000,rfl,?_⟩⟩,trivial⟩;exact zaq zz66
  | cons x B =>
   rw [zy5] at hb hb';refine zai zz3 (zw ?_)
   try refine sG ?_
   have hsd:=zvm (key:=ck) (l:=A);have hsn:=yzo (key:=ck) A x;obtain ⟨S,hSe⟩:∃ S,S=srt ck A:=⟨_,rfl⟩
   rw [<- hSe] at hS hsd hsn;refine ⟨{y:List zay×List zay // S=y.1++y.2/\∀ z∈y.2,ck x<ck z},fun | ⟨(S1,S2),_⟩=>hsP [1000] 53 [(0,.own 1000),(1,i64 a),(2,i64 b),(3,.clo g []),(8,i64 (P.length+A.length:Nat)),(9,i64 (P.length+S1.length:Nat))] (H1 (P++S1++x::(S2++B++Q))),fun y=>y.1.1.length,⟨(S,[]),by simp,by simp⟩,?_,?_⟩
   . exact (zbu [(1000,some 1000)] (by repeat' (first | exact z0 | refine z1 ?_ | refine ⟨?_,?_⟩ | ((exact zbj om)) | ((exact zaq (by simp [hSe]))) | exact z2)))
   rintro ⟨⟨S1,S2⟩,g1,g2⟩;dsimp only at g1 g2;have hSl:S.length=S1.length+S2.length:=by rw [g1];simp
   have fin:∀ (hle:∀ z∈S1,ck z<=ck x),srt ck (A++[x])=S1++x::S2:=fun hle=>by rw [hsn,g1];exact yec hle g2
   (conv=>whnf);rcases zgt S1 with rfl | ⟨S1,y,rfl⟩
   . refine zag zz3 (zw ?_)
     refine sD ?_;refine sF ?_;exact ⟨⟨(A++[x],B),by rw [h];simp,by simp⟩,(zbu [(1000,some 1000)] (by repeat' (first | exact z0 | refine z1 ?_ | refine ⟨?_,?_⟩ | ((exact zbj om)) | ((exact zaq (by rw [fin (by simp)];simp))) | exact z2))),by simp⟩
   . have e1:P++(S1++[y])++x::(S2++B++Q)=(P++S1)++y::([]++x::(S2++B++Q)):=by simp
     have e2:P++(S1++[y])++x::(S2++B++Q)=(P++S1++[y])++x::(S2++B++Q):=by simp
     simp only [zy6,zy5,zy14] at hSl;refine zai zz3 (zw ?_);refine sO ?_;refine zal e2 zz3 (zw ?_);refine sF ?_;refine sO ?_;refine zal e1 zz3 (zw ?_)
     (refine cZ ?_;refine dL (hg x y) ?_)
     refine sD ?_;by_cases c:cmp x y<0
     . refine sT ?_
       refine sF ?_;refine sF ?_;refine sO ?_;refine zal e1 zz3 (zw ?_);refine sO ?_;refine zal e2 zz3 (zw ?_);refine sO ?_;refine zal e2 zz3 (zw ?_);refine sO ?_;refine zir e1 zz3 zz3 (zw ?_);refine sD ?_;refine sF ?_;refine ⟨⟨(S1,y::S2),by rw [g1];simp,fun z hz=>?_⟩,(zbu [(1000,some 1000)] zz31),by simp⟩;rcases zy18.1 hz with rfl | hz
       . exact zla.1 c
       . exact g2 z hz
     . have hle:∀ z∈S1++[y],ck z<=ck x:=fun z hz=>by
        have h1:¬ ck x<ck y:=fun h=>c (zla.2 h)
        rw [g1] at hsd;have h2:=(yfg.1 (yfg.1 hsd).1).2.2;rcases zy17.1 hz with hz | hz
        . have:=h2 z hz y zz4;omega
        . rw [zy23.1 hz];omega
       refine sN ?_;refine sF ?_;exact ⟨⟨(A++[x],B),by rw [h];simp,by simp⟩,(zbu [(1000,some 1000)] (by repeat' (first | exact z0 | refine z1 ?_ | refine ⟨?_,?_⟩ | ((exact zbj om)) | ((exact zaq (by rw [fin hle];simp))) | exact z2))),by simp⟩
theorem zzs {α:Type} {f:α->List PV} {l A V B:List α} {z:Int} {K:List PV->Prop} (k:Nat) (h:l=A++V++B) (hk:k<V.length) (hz:z=A.length+k) (hK:K (f V[k])):zvy (l.map f) z K:=by
 subst h;refine ⟨_,by omega,?_,hK⟩;have:z.toNat=A.length+k:=by omega
 rw [this,zy10,zy33,zy50 (by omega),zy35 (by omega)];simp [hk]
theorem ytt (p:zay->Prop) [DecidablePred p]:∀ {V:List zay},(∀ i j (hj:j<V.length) (hij:i<=j),p V[j]->p (V[i]'zz0))->∃ V1 V2,V=V1++V2/\(∀ z∈V1,p z)/\∀ z∈V2,¬ p z
 | [],_=>⟨[],[],rfl,by simp,by simp⟩
 | y::V,h=>by
  by_cases c:p y
  . obtain ⟨V1,V2,e,h1,h2⟩:=ytt p (V:=V) fun i j hj hij hp=>by
     have:=h (i+1) (j+1) zz78 zz0 (by simpa using hp)
     simpa using this
    exact ⟨y::V1,V2,by rw [e];rfl,fun z hz=>by rcases zy18.1 hz with rfl | hz;exact c;exact h1 z hz,h2⟩
  . refine ⟨[],y::V,rfl,by simp,fun z hz hp=>?_⟩
    obtain ⟨j,hj,rfl⟩:=List.getElem_of_mem hz;exact c (h 0 j hj (zy104 _) hp)
theorem mem_left {V V1 V2:List zay} (h:V=V1++V2) {k:Nat} (hk:k<V.length) (h1:k<V1.length):V[k]∈V1:=by
 subst h;rw [List.getElem_append_left h1];exact zy83 h1
theorem ydz {V V1 V2:List zay} (h:V=V1++V2) {k:Nat} (hk:k<V.length) (h1:¬ k<V1.length):V[k]∈V2:=by
 subst h;rw [List.getElem_append_right (by omega)];exact zy83 _
end Srt
namespace Srt
theorem ypo {g:FuncId} (hg:ybq g) (P U V Q L L':List zay) (hL:L=P++U++V++Q) (hL':L'=P++mrg ck U V++Q) (hU:U≠[]) (hV:V≠[]) (sU:Sd ck U) (sV:Sd ck V) (hb:L.length<2 ^ 40) (a m b:Int) (ha:a=P.length) (hm:m=(P++U).length) (hb':b=(P++U++V).length) (c1:U.length=1) :
 zao Tryz.prog 218 [.own 1000,i64 a,i64 m,i64 b,.clo g []] (lk .free (H1 L)) (.tup []) (lk .free (H1 L')):=by
 have hU0:=zy32.2 hU;have hV0:=zy32.2 hV;rw [hL] at hb;simp only [zy6] at hb hm hb';refine zan mixed Tryz.func218 zz5 [1000] zbi ?_;(conv=>whnf);refine sF ?_;refine sT ?_;obtain ⟨x,rfl⟩:∃ x,U=[x]:=List.length_eq_one_iff.1 c1;obtain ⟨V1,V2,hVV,h1,h2⟩:=ytt (fun z=>ck z<ck x) (V:=V) fun i j hj hij hp=>by
  have:=zxz sV hj hij;omega
 have hmrg:mrg ck [x] V=V1++x::V2:=by rw [hVV];exact yya h1 fun z hz=>by have:=h2 z hz;omega
 have hVl:V.length=V1.length+V2.length:=by rw [hVV];simp
 rw [zy57] at hb hm hb';refine ⟨{x:Nat×Nat // x.1<=V1.length/\V1.length<=x.2/\x.2<=V.length},fun | ⟨(i,j),_⟩=>hsP [1000] 220 [(0,.own 1000),(1,i64 a),(2,i64 m),(3,i64 b),(4,.clo g []),(10,i64 (P.length+1+i:Nat)),(11,i64 (P.length+1+j:Nat))] (H1 L),fun x=>x.1.2-x.1.1,⟨(0,V.length),by omega,by omega,zy22 _⟩,?_,?_⟩
 . exact (zbu [(1000,some 1000)] zz2)
 rintro ⟨⟨i,j⟩,g1,g2,g3⟩;dsimp only at g1 g2 g3;(conv=>whnf);by_cases c:i<j
 . have hlt:(i+j) / 2<V.length:=by omega
   refine sT ?_;refine sF ?_;refine zbl (zsy zz0 zz0) (zw ?_);refine zaa zz5 (zw ?_);refine zbl (z':=((P.length+1+(i+j) / 2:Nat):Int)) ?_ ?_
   . show W ((((P.length+1+i:Nat):Int)+((P.length+1+j:Nat):Int)) / 2)=_
     rw [zbh (by omega) (by omega)];omega
   (conv=>whnf);refine zaa zz61 (zw ?_);refine zzs ((i+j) / 2) (show L=(P++[x])++V++Q from hL) hlt om (zw ?_);refine zaa zz61 (zw ?_);refine zal (show L=P++x::(V++Q) by rw [hL];simp) zz3 (zw ?_)
   (refine cZ ?_;refine dL (hg _ x) ?_)
   refine sD ?_;by_cases c2:(i+j) / 2<V1.length
   . have hk:=h1 _ (mem_left hVV hlt c2)
     refine zai (zy16 (zla.2 hk)) (zw ?_);exact yy91
   . have hk:=h2 _ (ydz hVV hlt c2)
     refine zag (zy19 fun h=>hk (zla.1 h)) (zw ?_);exact yy83
 . obtain rfl:i=V1.length:=by omega
   refine sN ?_;refine ⟨{y:List zay×List zay // V1=y.1++y.2},fun | ⟨(W1,W2),_⟩=>hsP [1000] 220 [(0,.own 1000),(10,i64 (P.length+1+V1.length:Nat)),(13,i64 (P.length+W1.length:Nat))] (H1 (P++W1++x::(W2++V2++Q))),fun y=>y.1.2.length,⟨([],V1),rfl⟩,?_,?_⟩
   . exact (zbu [(1000,some 1000)] (by repeat' (first | exact z0 | refine z1 ?_ | refine ⟨?_,?_⟩ | ((exact zbj om)) | ((exact zaq (by rw [hL,hVV];simp))) | exact z2)))
   rintro ⟨⟨W1,W2⟩,gw⟩;dsimp only at gw;have hW:V1.length=W1.length+W2.length:=by rw [gw];simp
   (conv=>whnf);refine sF ?_;cases W2 with
   | nil =>
    rw [zy14] at hW;exact yy72
   | cons y W2 =>
    rw [zy5] at hW;have e1:P++W1++x::(y::W2++V2++Q)=(P++W1)++x::([]++y::(W2++V2++Q)):=by simp
    have e2:P++W1++x::(y::W2++V2++Q)=(P++W1++[x])++y::(W2++V2++Q):=by simp
    refine sT ?_;refine sF ?_;refine sF ?_;refine sO ?_;refine zal e2 om (zw ?_);refine sO ?_;refine zal e1 om (zw ?_);refine sO ?_;refine zal e1 om (zw ?_);refine sO ?_;refine zir e2 om om (zw ?_);refine sD ?_;refine sF ?_;exact ⟨⟨(W1++[y],W2),by rw [gw];simp⟩,(zbu [(1000,some 1000)] (by repeat' (first | exact z0 | refine z1 ?_ | refine ⟨?_,?_⟩ | ((exact zbj om)) | ((refine yaq e1 (by simp) ?_ ?_ rfl rfl<;>(simp;try omega))) | exact z2))),by simp⟩
end Srt
namespace Srt
theorem ypp {g:FuncId} (hg:ybq g) (P U V Q L L':List zay) (hL:L=P++U++V++Q) (hL':L'=P++mrg ck U V++Q) (hU:U≠[]) (hV:V≠[]) (sU:Sd ck U) (sV:Sd ck V) (hb:L.length<2 ^ 40) (a m b:Int) (ha:a=P.length) (hm:m=(P++U).length) (hb':b=(P++U++V).length) (c1:¬ U.length=1) (c2:V.length=1) :
 zao Tryz.prog 218 [.own 1000,i64 a,i64 m,i64 b,.clo g []] (lk .free (H1 L)) (.tup []) (lk .free (H1 L')):=by
 have hU0:=zy32.2 hU;have hV0:=zy32.2 hV;rw [hL] at hb;simp only [zy6] at hb hm hb';refine zan mixed Tryz.func218 zz5 [1000] zbi ?_;(conv=>whnf);refine sF ?_;refine sN ?_;refine sF ?_;refine sT ?_;obtain ⟨y,rfl⟩:∃ y,V=[y]:=List.length_eq_one_iff.1 c2;obtain ⟨U1,U2,hUU,h1,h2⟩:=ytt (fun z=>ck z<=ck y) (V:=U) fun i j hj hij hp=>by
  have:=zxz sU hj hij;omega
 have hmrg:mrg ck U [y]=U1++y::U2:=by rw [hUU];exact yec h1 fun z hz=>by have:=h2 z hz;omega
 have hUl:U.length=U1.length+U2.length:=by rw [hUU];simp
 rw [zy57] at hb hb';refine ⟨{x:Nat×Nat // x.1<=U1.length/\U1.length<=x.2/\x.2<=U.length},fun | ⟨(i,j),_⟩=>hsP [1000] 220 [(0,.own 1000),(1,i64 a),(2,i64 m),(3,i64 b),(4,.clo g []),(14,i64 (P.length+i:Nat)),(15,i64 (P.length+j:Nat))] (H1 L),fun x=>x.1.2-x.1.1,⟨(0,U.length),by omega,by omega,zy22 _⟩,?_,?_⟩
 . exact (zbu [(1000,some 1000)] zz2)
 rintro ⟨⟨i,j⟩,g1,g2,g3⟩;dsimp only at g1 g2 g3;(conv=>whnf);by_cases c:i<j
 . have hlt:(i+j) / 2<U.length:=by omega
   refine sT ?_;refine sF ?_;refine zbl (zsy zz0 zz0) (zw ?_);refine zaa zz5 (zw ?_);refine zbl (z':=((P.length+(i+j) / 2:Nat):Int)) ?_ ?_
   . show W ((((P.length+i:Nat):Int)+((P.length+j:Nat):Int)) / 2)=_
     rw [zbh (by omega) (by omega)];omega
   (conv=>whnf);refine zaa zz61 (zw ?_);refine zal (show L=(P++U)++y::Q by rw [hL];simp) om (zw ?_);refine zaa zz61 (zw ?_);refine zzs ((i+j) / 2) (show L=P++U++([y]++Q) by rw [hL];simp) hlt om (zw ?_)
   (refine cZ ?_;refine dL (hg y _) ?_)
   refine sD ?_;by_cases c2:(i+j) / 2<U1.length
   . have hk:=h1 _ (mem_left hUU hlt c2)
     have hc:decide (cmp y U[(i+j) / 2]<0)=false:=zy19 fun h=>by have:=zla.1 h;omega
     refine zai (by rw [hc];rfl) (zw ?_);exact yy91
   . have hk:=h2 _ (ydz hUU hlt c2)
     have hc:decide (cmp y U[(i+j) / 2]<0)=true:=zy16 (zla.2 zz0);refine zag (by rw [hc];rfl) (zw ?_);exact yy83
 . obtain rfl:i=U1.length:=by omega
   refine sN ?_;refine ⟨{z:List zay×List zay // U2=z.1++z.2},fun | ⟨(W1,W2),_⟩=>hsP [1000] 220 [(0,.own 1000),(14,i64 (P.length+U1.length:Nat)),(17,i64 (P.length+U1.length+W1.length:Nat))] (H1 (P++U1++W1++y::(W2++Q))),fun z=>z.1.1.length,⟨(U2,[]),by simp⟩,?_,?_⟩
   . exact (zbu [(1000,some 1000)] (by repeat' (first | exact z0 | refine z1 ?_ | refine ⟨?_,?_⟩ | ((exact zbj om)) | ((exact zaq (by rw [hL,hUU];simp))) | exact z2)))
   rintro ⟨⟨W1,W2⟩,gw⟩;dsimp only at gw;have hW:U2.length=W1.length+W2.length:=by rw [gw];simp
   (conv=>whnf);rcases zgt W1 with rfl | ⟨W1,z,rfl⟩
   . rw [zy14] at hW
     exact yy72
   . simp only [zy6,zy5,zy14] at hW
     have e1:P++U1++(W1++[z])++y::(W2++Q)=(P++U1++W1)++z::([]++y::(W2++Q)):=by simp
     have e2:P++U1++(W1++[z])++y::(W2++Q)=(P++U1++W1++[z])++y::(W2++Q):=by simp
     refine zai zz3 (zw ?_)
     try refine sG ?_
     refine sF ?_;refine sF ?_;refine sO ?_;refine zal e1 zz3 (zw ?_);refine sO ?_;refine zal e2 zz3 (zw ?_);refine sO ?_;refine zal e2 zz3 (zw ?_);refine sO ?_;refine zir e1 zz3 zz3 (zw ?_);refine sD ?_;refine sF ?_;exact ⟨⟨(W1,z::W2),by rw [gw];simp⟩,(zbu [(1000,some 1000)] zz31),by simp⟩
end Srt
namespace Srt
structure Part (U V:List zay) (h s:Nat):Prop where
 hs:s<=h
 hv:h-s<=V.length
 hu:s<=U.length
 lo:∀ x∈U.take s,∀ z∈V.drop (h-s),ck x<=ck z
 hi:∀ z∈V.take (h-s),∀ x∈U.drop s,ck z<ck x
theorem zrm {α:Type} {l:List α} {n:Nat} {x:α} (h:x∈l.take n):∃ i,∃ hi:i<l.length,i<n/\x=l[i]:=by
 obtain ⟨i,hi,rfl⟩:=List.getElem_of_mem h;rw [zy52] at hi;exact ⟨i,by omega,by omega,by simp⟩
theorem zrl {α:Type} {l:List α} {n:Nat} {x:α} (h:x∈l.drop n):∃ i,∃ hi:i<l.length,n<=i/\x=l[i]:=by
 obtain ⟨i,hi,rfl⟩:=List.getElem_of_mem h;rw [zy34] at hi;exact ⟨n+i,by omega,by omega,by simp⟩
def LoB (U V:List zay) (h s:Nat):Prop:=∃ i j,∃ (h1:i<U.length) (h2:j<V.length),i+1=s/\j+s=h/\ck U[i]<=ck V[j]
def HiB (U V:List zay) (h s:Nat):Prop:=∃ i j,∃ (h1:i<U.length) (h2:j<V.length),i=s/\j+1+s=h/\ck V[j]<ck U[i]
theorem xef {U V:List zay} {h s s0 r0:Nat} (sU:Sd ck U) (sV:Sd ck V) (h0:s0<=s) (h1:s<=r0) (hr:r0<=h) (hru:r0<=U.length) (hv:h-s0<=V.length)
 (e0:s0=0\/h-s0=V.length) (e1:r0=h\/r0=U.length) (p0:s=s0\/LoB U V h s)
 (p1:s=r0\/HiB U V h s):Part U V h s:=by
 refine ⟨by omega,by omega,by omega,fun x hx z hz=>?_,fun z hz x hx=>?_⟩
 . obtain ⟨i,hi,hi2,rfl⟩:=zrm hx
   obtain ⟨j,hj,hj2,rfl⟩:=zrl hz;rcases p0 with p0 | ⟨i',j',k1,k2,k3,k4,k5⟩
   . rcases e0 with e0 | e0<;>omega
   . have a1:=zxz sU (i:=i) k1 zz0
     have a2:=zxz sV (i:=j') hj zz0;omega
 . obtain ⟨j,hj,hj2,rfl⟩:=zrm hz
   obtain ⟨i,hi,hi2,rfl⟩:=zrl hx;rcases p1 with p1 | ⟨i',j',k1,k2,k3,k4,k5⟩
   . rcases e1 with e1 | e1<;>omega
   . have a1:=zxz sU (i:=i') hi zz0
     have a2:=zxz sV (i:=j) k2 zz0;omega
theorem Part.merge {U V:List zay} {h s:Nat} (p:Part U V h s):mrg ck U V=mrg ck (U.take s) (V.take (h-s))++mrg ck (U.drop s) (V.drop (h-s)):=by
 have:=zln (key:=ck) (u2:=U.drop s) (v2:=V.drop (h-s)) (U.take s) (V.take (h-s)) p.lo p.hi
 rwa [zy25,zy25] at this
theorem yuo {l:List zay} (h:Sd ck l) (n:Nat):Sd ck (l.take n):=by
 rw [<- zy25 n l] at h;exact (yfg.1 h).1
theorem yun {l:List zay} (h:Sd ck l) (n:Nat):Sd ck (l.drop n):=by
 rw [<- zy25 n l] at h;exact (yfg.1 h).2.1
theorem zwg {g:FuncId} {L L':List zay} (P Q U V:List zay) (h1:L=P++U++V++Q) (h2:L'=P++V++U++Q) (hU:U≠[]) (hV:V≠[]) (hb:L.length<2 ^ 40) (a m b:Int) (ha:a=P.length) (hm:m=(P++U).length) (hb':b=(P++U++V).length) :
 zao Tryz.prog 219 [.own 1000,i64 a,i64 m,i64 b,.clo g []] (lk .free (H1 L)) (.tup []) (lk .free (H1 L')):=by
 subst h1 h2;exact yja P Q U V hU hV hb a m b ha hm hb'
theorem ylt {U V:List zay} (h:U=[]\/V=[]):mrg ck U V=U++V:=by
 rcases h with rfl | rfl
 . rw [mrg];rfl
 . rw [znn];simp
theorem yie (U V:List zay):(mrg ck U V).length=U.length+V.length:=by
 fun_induction mrg ck U V<;>simp_all<;>omega
theorem ybf {g:FuncId} (hg:ybq g):∀ (n:Nat) (P U V Q L L':List zay) (_:L=P++U++V++Q) (_:L'=P++mrg ck U V++Q) (_:U.length+V.length<=n) (_:U≠[]) (_:V≠[]) (_:Sd ck U) (_:Sd ck V) (_:L.length<2 ^ 40) (a m b:Int) (_:a=P.length) (_:m=(P++U).length) (_:b=(P++U++V).length),
 zao Tryz.prog 218 [.own 1000,i64 a,i64 m,i64 b,.clo g []] (lk .free (H1 L)) (.tup []) (lk .free (H1 L'))
 | 0,P,U,V,Q,L,L',hL,hL',hn,hU,hV,sU,sV,hb,a,m,b,ha,hm,hb'=>by
  have:=zy32.2 hU;omega
 | n+1,P,U,V,Q,L,L',hL,hL',hn,hU,hV,sU,sV,hb,a,m,b,ha,hm,hb'=>by
  by_cases c1:U.length=1
  . exact ypo hg P U V Q L L' hL hL' hU hV sU sV hb a m b ha hm hb' c1
  by_cases c2:V.length=1
  . exact ypp hg P U V Q L L' hL hL' hU hV sU sV hb a m b ha hm hb' c1 c2
  have ih:=ybf hg n;have hU0:=zy32.2 hU;have hV0:=zy32.2 hV;have hLl:L.length=P.length+U.length+V.length+Q.length:=by rw [hL];simp;omega
  rw [hLl] at hb;simp only [zy6] at hm hb';obtain ⟨h,hh⟩:∃ h,h=(U.length+V.length) / 2:=⟨_,rfl⟩
  refine zan mixed Tryz.func218 zz5 [1000] zbi ?_;(conv=>whnf);refine sF ?_;refine sN ?_;refine sF ?_;refine sN ?_;refine sF ?_;refine zbl (zsy zz0 zz0) (zw ?_);refine zaa zz5 (zw ?_);refine zbl (z':=((P.length+h:Nat):Int)) ?_ ?_
  . show W ((a+b) / 2)=_
    rw [zbh (by omega) (by omega)];omega
  (conv=>whnf);refine sFm ?_;refine znk.meet {x:Nat×Nat // x.1<=x.2/\x.2<=h/\x.2<=U.length/\h-x.1<=V.length/\(x.1=0\/h-x.1=V.length)/\(x.2=h\/x.2=U.length)} (fun | ⟨(s,r),_⟩=>hsP [1000] 220 [(0,.own 1000),(1,i64 a),(2,i64 m),(3,i64 b),(4,.clo g []),(18,i64 (P.length+h:Nat)),(19,i64 (2*P.length+h+U.length:Nat)),(20,i64 (P.length+s:Nat)),(21,i64 (P.length+r:Nat))] (H1 L)) ?_ ?_
  . by_cases c3:U.length>h
    . refine zai zz3 (zw ?_)
      refine sFm ?_;exact ⟨⟨(h-V.length,h),by dsimp only;omega⟩,(zbu [(1000,some 1000)] zz2)⟩
    . refine zag zz3 (zw ?_)
      exact ⟨⟨(0,U.length),by dsimp only;omega⟩,(zbu [(1000,some 1000)] zz2)⟩
  rintro ⟨⟨s0,r0⟩,k1,k2,k3,k4,k5,k6⟩;dsimp only at k1 k2 k3 k4 k5 k6;(conv=>whnf);refine sF ?_;refine ⟨{x:Nat×Nat // s0<=x.1/\x.1<=x.2/\x.2<=r0/\(x.1=s0\/LoB U V h x.1)/\(x.2=r0\/HiB U V h x.2)},
   fun | ⟨(s,r),_⟩=>hsP [1000] 220 [(0,.own 1000),(1,i64 a),(2,i64 m),(3,i64 b),(4,.clo g []),(18,i64 (P.length+h:Nat)),(19,i64 (2*P.length+h+U.length:Nat)),(20,i64 (P.length+s:Nat)),(21,i64 (P.length+r:Nat)),(22,i64 ((2*P.length+h+U.length:Nat)-1))] (H1 L),fun x=>x.1.2-x.1.1,⟨(s0,r0),zy22 _,k1,zy22 _,.inl rfl,.inl rfl⟩,?_,?_⟩
  . exact (zcx [(1000,some 1000)])
  rintro ⟨⟨s,r⟩,g1,g2,g3,g4,g5⟩;dsimp only at g1 g2 g3 g4 g5;(conv=>whnf);by_cases c:s<r
  . obtain ⟨k,hk⟩:∃ k,k=(s+r) / 2:=⟨_,rfl⟩
    obtain ⟨j,hj⟩:∃ j,j+1+k=h:=⟨h-1-k,by omega⟩
    have hkU:k<U.length:=by omega
    have hjV:j<V.length:=by omega
    refine sT ?_;refine sF ?_;refine zbl (zsy zz0 zz0) (zw ?_);refine zaa zz5 (zw ?_);refine zbl (z':=((P.length+k:Nat):Int)) ?_ ?_
    . show W ((((P.length+s:Nat):Int)+((P.length+r:Nat):Int)) / 2)=_
      rw [zbh (by omega) (by omega)];omega
    (conv=>whnf);refine sF ?_;refine zaa zz61 (zw ?_);refine zzs j (show L=(P++U)++V++Q from hL) hjV zz3 (zw ?_);refine zaa zz61 (zw ?_);refine zzs k (show L=P++U++(V++Q) by rw [hL];simp) hkU zz0 (zw ?_)
    (refine cZ ?_;refine dL (hg V[j] U[k]) ?_)
    refine sD ?_;by_cases c3:ck V[j]<ck U[k]
    . have hc:decide (cmp V[j] U[k]<0)=true:=zy16 (zla.2 c3)
      refine zag (by rw [hc];rfl) (zw ?_)
      try refine sG ?_
      exact ⟨⟨(s,k),g1,by dsimp only;omega,by dsimp only;omega,g4,.inr ⟨k,j,hkU,hjV,rfl,hj,c3⟩⟩,(zcx [(1000,some 1000)]),by dsimp only;omega⟩
    . have hc:decide (cmp V[j] U[k]<0)=false:=zy19 fun h=>c3 (zla.1 h)
      refine zai (by rw [hc];rfl) (zw ?_)
      try refine sG ?_
      refine sF ?_;exact ⟨⟨(k+1,r),by dsimp only;omega,by dsimp only;omega,g3,.inr ⟨k,j,hkU,hjV,rfl,by dsimp only;omega,by omega⟩,g5⟩,(zbu [(1000,some 1000)] zz2),by dsimp only;omega⟩
  . obtain rfl:s=r:=by omega
    have hp:=xef sU sV g1 g3 k2 k3 k4 k5 k6 g4 g5;have hmg:=hp.merge;obtain ⟨q1,q2,q3,-,-⟩:=hp;have sU1:=yuo sU s;have sU2:=yun sU s;have sV1:=yuo sV (h-s);have sV2:=yun sV (h-s);have lU1:(U.take s).length=s:=by simp;omega
    have lU2:(U.drop s).length=U.length-s:=by simp
    have lV1:(V.take (h-s)).length=h-s:=by simp;omega
    have lV2:(V.drop (h-s)).length=V.length-(h-s):=by simp
    have eU:U=U.take s++U.drop s:=by simp
    have eV:V=V.take (h-s)++V.drop (h-s):=by simp
    generalize U.take s=U1 at *
    generalize U.drop s=U2 at *
    generalize V.take (h-s)=V1 at *
    generalize V.drop (h-s)=V2 at *
    refine sN ?_;refine sFm ?_;have hlL:∀ A:List zay,A.length=U.length+V.length->(P++A++Q).length<2 ^ 40:=fun A hA=>by simp;omega
    refine znk.meet Unit (fun _=>hsP [1000] 220 [(0,.own 1000),(1,i64 a),(3,i64 b),(4,.clo g []),(18,i64 (P.length+h:Nat)),(20,i64 (P.length+s:Nat)),(24,i64 (P.length+U.length+(h-s):Nat))] (H1 (P++U1++V1++U2++V2++Q))) ?_ fun _=>?_
    . by_cases d1:s<U.length
      . refine sTm ?_
        by_cases d2:0<h-s
        . refine zai zz3 (zw ?_)
          (refine zac [] [(1000,1000)] [] ?_;(conv=>whnf);refine dGm (zwg (L:=L) (L':=P++U1++V1++U2++V2++Q) (P++U1) (V2++Q) U2 V1 (by rw [hL,eU,eV];simp) zz4 (zy32.1 zz0) (zy32.1 zz0) zz0 _ _ _ zz3 zz3 zz3) ?_ ⟨rfl,rfl,rfl,⟨zz1,trivial⟩,trivial,rfl,rfl,rfl⟩)
          exact ⟨(),(zbu [(1000,some 1000)] zz2)⟩
        . have:V1=[]:=zy21 zz0
          refine zag zz3 (zw ?_);exact ⟨(),(zbu [(1000,some 1000)] zz33)⟩
      . have:U2=[]:=zy21 zz0
        refine sNm ?_;exact ⟨(),(zbu [(1000,some 1000)] zz33)⟩
    (conv=>whnf);refine znk.meet Unit (fun _=>hsP [1000] 220 [(0,.own 1000),(3,i64 b),(4,.clo g []),(18,i64 (P.length+h:Nat)),(24,i64 (P.length+U.length+(h-s):Nat))] (H1 (P++mrg ck U1 V1++U2++V2++Q))) ?_ fun _=>?_
    . by_cases d1:0<s
      . refine sTm ?_
        by_cases d2:s<h
        . refine zai zz3 (zw ?_)
          (refine zac [] [(1000,1000)] [] ?_;(conv=>whnf);refine dGm (ih P U1 V1 (U2++V2++Q) (P++U1++V1++U2++V2++Q) (P++mrg ck U1 V1++U2++V2++Q) zz4 zz4 zz0 (zy32.1 zz0) (zy32.1 zz0) sU1 sV1 zz3 _ _ _ zz0 zz3 zz3) ?_ ⟨rfl,rfl,rfl,⟨zz1,trivial⟩,trivial,rfl,rfl,rfl⟩)
          exact ⟨(),(zcx [(1000,some 1000)])⟩
        . have:V1=[]:=zy21 zz0
          refine zag zz3 (zw ?_);exact ⟨(),(zbu [(1000,some 1000)] (by repeat' (first | exact z0 | refine z1 ?_ | refine ⟨?_,?_⟩ | ((exact zaq (by rw [ylt (.inr this)];simp))) | exact z2)))⟩
      . have:U1=[]:=zy21 zz0
        refine sNm ?_;exact ⟨(),(zbu [(1000,some 1000)] (by repeat' (first | exact z0 | refine z1 ?_ | refine ⟨?_,?_⟩ | ((exact zaq (by rw [ylt (.inl this)];simp))) | exact z2)))⟩
    (conv=>whnf);have hm1:=yie U1 V1;have hout:L'=P++mrg ck U1 V1++mrg ck U2 V2++Q:=by rw [hL',hmg];simp
    by_cases d1:s<U.length
    . refine sT ?_
      by_cases d2:h-s<V.length
      . refine zai zz3 (zw ?_)
        (refine zac [] [(1000,1000)] [] ?_;(conv=>whnf);refine dG (ih (P++mrg ck U1 V1) U2 V2 Q (P++mrg ck U1 V1++U2++V2++Q) L' zz4 hout zz0 (zy32.1 zz0) (zy32.1 zz0) sU2 sV2 zz3 _ _ _ zz3 zz3 zz3) ?_ ⟨rfl,rfl,rfl,⟨zz1,trivial⟩,trivial,rfl,rfl,rfl⟩)
        exact yy27
      . have:V2=[]:=zy21 zz0
        refine zag zz3 (zw ?_);refine zam [(1000,some 1000)] rfl rfl ⟨rfl,trivial⟩ rfl rfl ⟨⟨rfl,.inl ⟨1000,rfl,?_⟩⟩,trivial⟩;exact zaq (by rw [hout,ylt (.inr this)];simp)
    . have:U2=[]:=zy21 zz0
      refine sN ?_;refine zam [(1000,some 1000)] rfl rfl ⟨rfl,trivial⟩ rfl rfl ⟨⟨rfl,.inl ⟨1000,rfl,?_⟩⟩,trivial⟩;exact zaq (by rw [hout,ylt (.inl this)];simp)
end Srt
namespace Srt
def BS (s:Nat) (l:List zay):Prop:=∀ k,Sd ck ((l.drop (k*s)).take s)
theorem yzz (s:Nat):BS s []:=fun k=>by simp [Sd]
theorem zsw {s k:Nat} {l blk:List zay} (h:BS s l) (hl:l.length=k*s) (hb:blk.length<=s) (hd:Sd ck blk):BS s (l++blk):=by
 intro j;rcases Nat.lt_trichotomy j k with hj | rfl | hj
 . have:j*s+s<=l.length:=by rw [hl];have:=zy69 s (show j+1<=k by omega);rw [zy47] at this;omega
   rw [zy129 (by omega),zy72 (by simp;omega)];exact h j
 . rw [<- hl,zy111,zy37 hb];exact hd
 . have:l.length+blk.length<=j*s:=by rw [hl];have:=zy69 s (show k+1<=j by omega);rw [zy47] at this;omega
   rw [zy31 (by simp;omega)];simp [Sd]
theorem xbj {s:Nat} {l:List zay} (h:BS s l) (n:Nat):BS s (l.drop (n*s)):=fun k=>by
 have:=h (n+k);rwa [zy134,<- zy47]
theorem yzy {s:Nat} {l:List zay} (h:BS s l) (hl:l.length<=s):Sd ck l:=by
 have:=h 0;rwa [Nat.zero_mul,zy151,zy37 hl] at this
theorem zpe {A B B' C:List zay} (h:srt ck B=srt ck B'):srt ck (A++B++C)=srt ck (A++B'++C):=by
 rw [<- zno C (A++B),<- zno C (A++B'),<- zno B A,<- zno B' A,h]
theorem ymy (l:List zay):srt ck (srt ck l)=srt ck l:=zjy zvm
theorem yvq {U V:List zay} (hU:Sd ck U) (hV:Sd ck V):srt ck (mrg ck U V)=srt ck (U++V):=by
 rw [zjy (ysz U V hU hV),<- zno,zjy hU,zjy hV]
theorem zoz {g:FuncId} (hg:ybq g) (P X Q L L':List zay) (h1:L=P++X++Q) (h2:L'=P++srt ck X++Q) (hb:L.length<2 ^ 40) (a b:Int) (ha:a=P.length) (hb':b=(P++X).length) :
 zao Tryz.prog 217 [.own 1000,i64 a,i64 b,.clo g []] (lk .free (H1 L)) (.tup []) (lk .free (H1 L')):=by
 subst h1 h2;exact ypf hg P X Q hb a b ha hb'
theorem yjb {g:FuncId} (hg:ybq g) (l:List zay) (hb:l.length<2 ^ 39) (n:Int) (hn:n=l.length) :
 zao Tryz.prog 213 [.own 1000,i64 n,.clo g []] (lk .free (H1 l)) (.tup []) (lk .free (H1 (srt ck l))):=by
 refine zan mixed Tryz.func213 zz5 [1000] zbi ?_;(conv=>whnf);refine ⟨{x:(List zay×List zay)×Nat // x.1.1.length=x.2*20/\x.1.1.length+x.1.2.length=l.length/\BS 20 x.1.1/\srt ck (x.1.1++x.1.2)=srt ck l},fun | ⟨((D,R),k),_⟩=>hsP [1000] 63 [(0,.own 1000),(1,i64 n),(2,.clo g []),(6,i64 20),(7,i64 D.length),(8,i64 (D.length+20:Nat))] (H1 (D++R)),fun x=>x.1.1.2.length,⟨(([],l),0),by simp,by simp,yzz _,rfl⟩,?_,?_⟩
 . exact (zcx [(1000,some 1000)])
 rintro ⟨⟨⟨D,R⟩,k⟩,h1,h2,h3,h4⟩;dsimp only at h1 h2 h3 h4;(conv=>whnf);by_cases c:20<=R.length
 . obtain ⟨X,R,rfl,hX⟩:∃ X R',R=X++R'/\X.length=20:=⟨R.take 20,R.drop 20,by simp,by simp;omega⟩
   simp only [zy6] at h2 c;have hsX:=zjx (key:=ck) X;refine sT ?_
   (refine zac [] [(1000,1000)] [] ?_;(conv=>whnf);refine dG (zoz hg D X R (D++(X++R)) (D++srt ck X++R) zz4 rfl zz3 _ _ rfl zz3) ?_ ⟨rfl,rfl,rfl,⟨zz1,trivial⟩,trivial,rfl,rfl,rfl⟩)
   refine sF ?_;exact ⟨⟨((D++srt ck X,R),k+1),by simp;omega,by simp;omega,zsw h3 h1 zz0 zvm,by dsimp only;rw [zpe (ymy X),zy33];exact h4⟩,(zbu [(1000,some 1000)] zz2),by simp;omega⟩
 . have hsR:=zjx (key:=ck) R
   refine sN ?_
   (refine zac [] [(1000,1000)] [] ?_;(conv=>whnf);refine dG (zoz hg D R [] (D++R) (D++srt ck R) zz4 zz4 zz3 _ _ rfl zz3) ?_ ⟨rfl,rfl,rfl,⟨zz1,trivial⟩,trivial,rfl,rfl,rfl⟩)
   have hBS:BS 20 (D++srt ck R):=zsw h3 h1 zz0 zvm;have hsr:srt ck (D++srt ck R)=srt ck l:=by
    have:=zpe (A:=D) (C:=[]) (ymy R);rw [zy8,zy8] at this;rw [this];exact h4
   have hlen:(D++srt ck R).length=l.length:=by simp;omega
   obtain ⟨L,hL⟩:∃ L,L=D++srt ck R:=⟨_,rfl⟩
   rw [<- hL] at hBS hsr hlen;refine ⟨{x:List zay×Nat // BS x.2 x.1/\srt ck x.1=srt ck l/\x.1.length=l.length/\0<x.2/\x.2<2 ^ 41},fun | ⟨(L,s),_⟩=>hsP [1000] 63 [(0,.own 1000),(1,i64 n),(2,.clo g []),(6,i64 s)] (H1 L),fun x=>2 ^ 41-x.1.2,⟨(L,20),hBS,hsr,hlen,by omega,by omega⟩,?_,?_⟩
   . exact (zbu [(1000,some 1000)] (by repeat' (first | exact z0 | refine z1 ?_ | refine ⟨?_,?_⟩ | ((exact zaq (by rw [hL]))) | exact z2)))
   clear h1 h2 h3 h4 c hsR hBS hsr hlen hL;rintro ⟨⟨L,s⟩,h1,h2,h3,h4,h5⟩;dsimp only at h1 h2 h3 h4 h5;(conv=>whnf);by_cases c:s<l.length
   . refine sT ?_
     refine sF ?_;refine ⟨{x:(List zay×List zay)×Nat // x.1.1.length=x.2*(2*s)/\x.1.1.length+x.1.2.length=l.length/\BS (2*s) x.1.1/\BS s x.1.2/\srt ck (x.1.1++x.1.2)=srt ck l},fun | ⟨((D,R),k),_⟩=>hsP [1000] 63 [(0,.own 1000),(1,i64 n),(2,.clo g []),(6,i64 s),(7,i64 D.length),(8,i64 (D.length+2*s:Nat))] (H1 (D++R)),fun x=>x.1.1.2.length,⟨(([],L),0),by simp,by simpa using h3,yzz _,h1,h2⟩,?_,?_⟩
     . exact (zbu [(1000,some 1000)] zz2)
     rintro ⟨⟨⟨D,R⟩,k⟩,h1,h2,h3,h6,h7⟩;dsimp only at h1 h2 h3 h6 h7;(conv=>whnf);by_cases c2:2*s<=R.length
     . obtain ⟨U,V,R,rfl,hU,hV⟩:∃ U V R',R=U++V++R'/\U.length=s/\V.length=s:=⟨R.take s,(R.drop s).take s,R.drop (2*s),by
        rw [show 2*s=s+s by omega,<- zy134,zy33,zy25,zy25],by simp;omega,by simp;omega⟩
       have sU:Sd ck U:=by have:=h6 0;rwa [Nat.zero_mul,zy151,zy33,zy72 zz0,zy37 zz0] at this
       have sV:Sd ck V:=by have:=h6 1;rwa [Nat.one_mul,zy33,<- hU,zy111,hU,zy72 zz0,zy37 zz0] at this
       have hR:BS s R:=by
        have:=xbj h6 2
        rwa [List.drop_left' zz3] at this
       have hm:=yie U V;simp only [zy6] at h2 c2;refine sT ?_;refine sF ?_
       (refine zac [] [(1000,1000)] [] ?_;(conv=>whnf);refine dG (ybf hg (2*s) D U V R (D++(U++V++R)) (D++mrg ck U V++R) zz4 rfl zz0 (zy32.1 zz0) (zy32.1 zz0) sU sV zz3 _ _ _ rfl zz3 zz3) ?_ ⟨rfl,rfl,rfl,⟨zz1,trivial⟩,trivial,rfl,rfl,rfl⟩)
       refine sF ?_;refine sF ?_;exact ⟨⟨((D++mrg ck U V,R),k+1),by rw [zy47];simp;omega,by simp;omega,zsw h3 h1 zz0 (ysz U V sU sV),hR,by dsimp only;rw [zpe (yvq sU sV),zy33,zy33,<- zy33 U];exact h7⟩,(zbu [(1000,some 1000)] zz2),by simp;omega⟩
     . refine sN ?_
       refine sF ?_;by_cases c3:s<R.length
       . obtain ⟨U,V,rfl,hU⟩:∃ U V,R=U++V/\U.length=s:=⟨R.take s,R.drop s,by simp,by simp;omega⟩
         have sU:Sd ck U:=by have:=h6 0;rwa [Nat.zero_mul,zy151,zy72 zz0,zy37 zz0] at this
         simp only [zy6] at h2 c2 c3;have sV:Sd ck V:=by have:=h6 1;rwa [Nat.one_mul,<- hU,zy111,hU,zy37 zz0] at this
         have hm:=yie U V;refine zai zz3 (zw ?_)
         try refine sG ?_
         (refine zac [] [(1000,1000)] [] ?_;(conv=>whnf);refine dG (ybf hg (2*s) D U V [] (D++(U++V)) (D++mrg ck U V) zz4 zz4 zz0 (zy32.1 zz0) (zy32.1 zz0) sU sV zz3 _ _ _ rfl zz3 zz3) ?_ ⟨rfl,rfl,rfl,⟨zz1,trivial⟩,trivial,rfl,rfl,rfl⟩)
         refine sF ?_;have e1:=zpe (A:=D) (C:=[]) (yvq sU sV);rw [zy8,zy8] at e1;exact ⟨⟨(D++mrg ck U V,2*s),zsw h3 h1 zz0 (ysz U V sU sV),by dsimp only;rw [e1];exact h7,by simp;omega,by dsimp only;omega,by dsimp only;omega⟩,(zbu [(1000,some 1000)] zz2),by dsimp only;omega⟩
       . refine zag zz3 (zw ?_)
         try refine sG ?_
         refine sF ?_;exact ⟨⟨(D++R,2*s),zsw h3 h1 zz0 (yzy h6 zz0),h7,by simp;omega,by dsimp only;omega,by dsimp only;omega⟩,(zbu [(1000,some 1000)] zz2),by dsimp only;omega⟩
   . have hsd:=yzy h1 zz0
     rw [zjy hsd] at h2;refine sN ?_;refine zam [(1000,some 1000)] rfl rfl ⟨rfl,trivial⟩ rfl rfl ⟨⟨rfl,.inl ⟨1000,rfl,?_⟩⟩,trivial⟩;exact zaq (by rw [h2])
theorem yvk {g:FuncId} (hg:ybq g) (l:List zay) (hb:l.length<2 ^ 39) :
 zao Tryz.prog 207 [.own 1000,.clo g []] (lk .free (H1 l)) (.tup []) (lk .free (H1 (srt ck l))):=by
 refine zan mixed Tryz.func207 zz5 [1000] zbi ?_;(conv=>whnf)
 (refine zac [] [(1000,1000)] [] ?_;(conv=>whnf);refine dG (yjb hg l hb _ zz4) ?_ ⟨rfl,rfl,rfl,⟨zz1,trivial⟩,trivial,rfl,rfl,rfl⟩)
 exact yy27
end Srt
namespace Cl
theorem ydl {α:Type} {p:α->Bool} (A B:List α) (x:α) (hA:∀ y∈A,p y=false) (hx:p x=true):zbq p 0 (A++x::B)=(A.length:Int):=by
 have gen:∀ (A:List α) (k:Nat),(∀ y∈A,p y=false)->zbq p k (A++x::B)=((k+A.length:Nat):Int):=by
  intro A
  induction A with
  | nil=>intro k _;simp [zbq,hx]
  | cons a A ih=>intro k h;rw [zy38,zbq,zy0 (by rw [h a (by simp)];decide),ih (k+1) fun y hy=>h y zz47];simp;omega
 rw [gen A 0 hA];simp
theorem ydm {α:Type} (p:α->Bool) (l:List α):(zbq p 0 l=-1/\∀ y∈l,p y=false)\/∃ A x B,l=A++x::B/\(∀ y∈A,p y=false)/\p x=true:=by
 have gen:∀ (l:List α) (k:Nat),(zbq p k l=-1/\∀ y∈l,p y=false)\/∃ A x B,l=A++x::B/\(∀ y∈A,p y=false)/\p x=true:=by
  intro l
  induction l with
  | nil=>intro k;exact .inl ⟨rfl,by simp⟩
  | cons a l ih =>
   intro k;cases h:p a with
   | true=>exact .inr ⟨[],a,l,rfl,by simp,h⟩
   | false =>
    rcases ih (k+1) with ⟨h1,h2⟩ | ⟨A,x,B,rfl,h2,h3⟩
    . exact .inl ⟨by rw [zbq,zy0 (by rw [h];decide),h1],fun y hy=>by rcases zy18.1 hy with rfl | hy;exact h;exact h2 y hy⟩
    . exact .inr ⟨a::A,x,B,rfl,fun y hy=>by rcases zy18.1 hy with rfl | hy;exact h;exact h2 y hy,h3⟩
 exact gen l 0
theorem ymn {α:Type} {t n:Nat} {f:α->List PV} {l A B:List α} {x y:α} {i:Nat} {r:List PV} (h:l=A++x::B) (hi:i=A.length) (hr:f y=r):zad.live (.row t n ((l.map f).set i r))=zad.live (.row t n ((A++y::B).map f)):=by
 subst h hr;rw [<- zy107,Srt.yir hi]
theorem zct (l:List UInt8) (hb:l.length<2 ^ 40):zao Tryz.prog 70 [.p (.sl 1 (l.map zdu))] zae (.own 0) (lk .free [(0,.live (.row 5 1 (l.map zdu)))]):=by
 refine zan mixed Tryz.func70 zz5 [] (fun _=>.inl rfl) ?_;(conv=>whnf);intro b hn;(conv=>whnf);refine zah (fun c=>?_) (fun c=>?_)
 . conv=>whnf
   exact yy14
 . conv=>whnf
   refine zaa (c:=(([]:List (List PV)).length+(l.map zdu).length)*1<=140737488355328) zz3 ?_;exact yy9
theorem zpp (l:List Int) (hb:l.length<2 ^ 40):zao Tryz.prog 74 [.p (.sl 1 (l.map (fun n=>[pi n])))] zae (.own 0) (lk .free [(0,.live (.row 3 1 (l.map (fun n=>[pi n]))))]):=by
 refine zan mixed Tryz.func74 zz5 [] (fun _=>.inl rfl) ?_;(conv=>whnf);intro b hn;(conv=>whnf);refine zah (fun c=>?_) (fun c=>?_)
 . conv=>whnf
   exact yy14
 . conv=>whnf
   refine zaa (c:=(([]:List (List PV)).length+(l.map (fun n=>[pi n])).length)*8<=140737488355328) zz3 ?_;exact yy9
theorem zfb (l:List Span) (hb:l.length<2 ^ 40):zao Tryz.prog 150 [.p (.sl 2 (l.map Span.row))] zae (.own 0) (lk .free [(0,.live (.row 199 2 (l.map Span.row)))]):=by
 refine zan mixed Tryz.func150 zz5 [] (fun _=>.inl rfl) ?_;(conv=>whnf);intro b hn;(conv=>whnf);refine zah (fun c=>?_) (fun c=>?_)
 . conv=>whnf
   exact yy14
 . conv=>whnf
   refine zaa (c:=(([]:List (List PV)).length+(l.map Span.row).length)*16<=140737488355328) zz3 ?_;exact yy9
theorem ygu (l:List Path) (hb:l.length<2 ^ 40):zao Tryz.prog 73 [.p (.sl 7 (l.map Path.row))] zae (.own 0) (lk .free [(0,.live (.row 86 7 (l.map Path.row)))]):=by
 refine zan mixed Tryz.func73 zz5 [] (fun _=>.inl rfl) ?_;(conv=>whnf);intro b hn;(conv=>whnf);refine zah (fun c=>?_) (fun c=>?_)
 . conv=>whnf
   exact yy14
 . conv=>whnf
   refine zaa (c:=(([]:List (List PV)).length+(l.map Path.row).length)*56<=140737488355328) zz3 ?_;exact yy9
theorem zna {g:FuncId} {c1 c2 c3:List PV} {p:zay->Bool} (hg:∀ m:zay,zao Tryz.prog g [m.hv,.rp c1,.rp c2,.rp c3] zae (zbk (p m)) zae) (q:List zay) (hb:q.length<2 ^ 62) :
 zao Tryz.prog 215 [.p (.sl 12 (q.map zay.row)),.clo g [.rp c1,.rp c2,.rp c3]] zae (i64 (zbq p 0 q)) zae:=by
 refine zap mixed Tryz.func215 zz5 ?_;(conv=>whnf);refine ⟨{k:Nat // k<=q.length/\zbq p k (q.drop k)=zbq p 0 q},fun | ⟨k,_⟩=>hs 19 [(0,.p (.sl 12 (q.map zay.row))),(1,.clo g [.rp c1,.rp c2,.rp c3]),(7,i64 (q.map zay.row).length),(8,i64 k)] [],fun k=>q.length-k.1,⟨0,by simp⟩,?_,?_⟩
 . exact (zdx [])
 . rintro ⟨k,hk,hi⟩
   exact yy5
theorem ych {g:FuncId} {c1 c2 c3:List PV} {p:zay->Bool} (hg:∀ m:zay,zao Tryz.prog g [m.hv,.rp c1,.rp c2,.rp c3] zae (zbk (p m)) zae) (A0 B0:List zay) (x:zay) (hA:∀ y∈A0,p y=false) (hx:p x=true) (hb:(A0++x::B0).length<2 ^ 38) :
 zao Tryz.prog 210 [.own 1000,.clo g [.rp c1,.rp c2,.rp c3]] (lk .free [(1000,.live (.row 162 12 ((A0++x::B0).map zay.row)))])
  (.osl 1000 12 0 ((A0++x::B0).filter fun y=>!p y).length) (lk .free [(1000,.live (.row 162 12 ((((A0++x::B0).filter fun y=>!p y).map zay.row)++List.replicate ((A0++x::B0).length-((A0++x::B0).filter fun y=>!p y).length) ([pi 0,pi 0,pi 0,pi 0,pi 0,pi 0,pb false,pb false,.v (.slice none 0 0),.v (.slice none 0 0),pi 0,.v (.slice none 0 0)]))))]):=by
 refine zan mixed Tryz.func210 zz5 [1000] zbi ?_;have hfA:A0.filter (fun y=>!p y)=A0:=zy84.2 fun y hy=>by rw [hA y hy];rfl
 have hlen:(A0++x::B0).length=A0.length+1+B0.length:=by simp;omega
 conv=>whnf
 (refine cL ?_;refine dL (zna hg (A0++x::B0) zz0) ?_)
 rw [ydl A0 B0 x hA hx];(conv=>whnf)
 try refine sG ?_
 refine sF ?_;refine ⟨{y:(List zay×List zay)×List zay×List zay // A0++x::B0=y.1.1++y.1.2/\y.2.1=y.1.1.filter (fun z=>!p z)/\0<y.2.2.length/\y.2.1.length+y.2.2.length=y.1.1.length},fun | ⟨((A,B),K,G),_⟩=>hsP [1000] 42 [(0,.own 1000),(1,.clo g [.rp c1,.rp c2,.rp c3]),(5,i64 K.length),(6,i64 A.length)] [(1000,.live (.row 162 12 ((K++G++B).map zay.row)))],fun y=>y.1.1.2.length,⟨((A0++[x],B0),A0,[x]),by simp,by simp [hfA,hx],by simp,by simp⟩,?_,?_⟩
 . exact (zbu [(1000,some 1000)] zz14)
 rintro ⟨⟨⟨A,B⟩,K,G⟩,h,hK,hG,hl⟩;dsimp only at h hK hG hl;have hAB:(A0++x::B0).length=A.length+B.length:=by rw [h];simp
 (conv=>whnf);cases B with
 | nil =>
  rw [zy14] at hAB;rw [zy8] at h;have hF:(A0++x::B0).filter (fun z=>!p z)=K:=by rw [h,hK]
  refine zag zz3 (zw ?_)
  try refine sG ?_
  refine sOm ?_;refine sOm ?_;refine zaa zz35 (zw ?_);refine zam [(1000,some 1000)] rfl rfl ⟨rfl,trivial⟩ rfl ?_ ⟨⟨rfl,.inl ⟨1000,rfl,?_⟩⟩,trivial⟩
  . show HV.osl 1000 12 0 _=HV.osl 1000 12 0 _
    rw [hF];rfl
  . refine zaq ?_
    rw [hF,zcm,zy8,zy36,zy31 (by simp;omega),zy8];congr 1
    . exact zy93 zz4
    . congr 1;simp;omega
 | cons v B =>
  rw [zy5] at hAB;have e1:K++G++v::B=(K++G)++v::B:=rfl;refine zai zz3 (zw ?_)
  try refine sG ?_
  refine sO ?_;refine zal e1 zz3 (zw ?_)
  (refine cZ ?_;refine dL (hg v) ?_)
  cases hv:p v with
  | true =>
   exact yy64
  | false =>
   obtain ⟨g0,G,rfl⟩:∃ g0 G',G=g0::G':=by cases G with
    | nil=>simp at hG
    | cons a b=>exact ⟨a,b,rfl⟩
   have e2:K++(g0::G)++v::B=K++g0::(G++v::B):=by simp
   rw [zy5] at hl;(conv=>whnf)
   try refine sG ?_
   refine sO ?_;refine zal e2 zz4 (zw ?_);refine sF ?_;refine sF ?_;refine ⟨⟨((A++[v],B),K++[v],G++[v]),by rw [h];simp,by rw [zy53,<- hK];simp [hv],by simp,by simp;omega⟩,(zbu [(1000,some 1000)] (by repeat' (first | exact z0 | refine z1 ?_ | refine ⟨?_,?_⟩ | ((exact zbj om)) | ((exact (zer (f:=zay.row) (a:=K) (b:=G++v::B) (x:=g0) (y:=v) (by simp) rfl).symm.trans (zaq (by simp)))) | ((refine (ymn e2 ?_ rfl).trans (zaq (by simp));simp)) | exact z2))),by simp⟩
theorem ynp {g:FuncId} {c1 c2 c3:List PV} {p:zay->Bool} (hg:∀ m:zay,zao Tryz.prog g [m.hv,.rp c1,.rp c2,.rp c3] zae (zbk (p m)) zae) (l:List zay) (hb:l.length<2 ^ 38) :
 zao Tryz.prog 210 [.own 1000,.clo g [.rp c1,.rp c2,.rp c3]] (lk .free [(1000,.live (.row 162 12 (l.map zay.row)))])
  (.own 0) (lk .free [(1000,.dead),(0,.live (.row 162 12 ((l.filter fun y=>!p y).map zay.row)))]):=by
 rcases ydm p l with ⟨h1,h2⟩ | ⟨A,x,B,rfl,hA,hx⟩
 . refine zan mixed Tryz.func210 zz5 [1000] zbi ?_
   rw [zy84.2 fun y hy=>by rw [h2 y hy];rfl];(conv=>whnf)
   (refine cL ?_;refine dL (zna hg l zz0) ?_)
   exact yy70
 . have h:=zjj (d:=0) (L:=[]) (rows:=(((A++x::B).filter fun y=>!p y).map zay.row)++List.replicate ((A++x::B).length-((A++x::B).filter fun y=>!p y).length) ([pi 0,pi 0,pi 0,pi 0,pi 0,pi 0,pb false,pb false,.v (.slice none 0 0),.v (.slice none 0 0),pi 0,.v (.slice none 0 0)])) (ych hg A B x hA hx hb) (.inl rfl) zz4 rfl zz5
   rwa [zy93 zz4] at h
end Cl
namespace Paths
def new (part:Int):Path:=⟨W (2*part),W (32*part),0,0,0,0,3⟩
def zvz (p:Path) (bytes part:Int) (moved:Bool):Path :=
 match moved with
 | false=>p
 | true =>
  if bytes=0 then {p with errors:=0,wait:=3,zcj:=0} else
  if p.window<=p.slow then {p with errors:=0,wait:=3,zcj:=0,window:=W (p.window+min bytes part)} else
  if W (p.gathered+bytes)>=p.window then {p with errors:=0,wait:=3,zcj:=0,gathered:=W (W (p.gathered+bytes)-p.window),window:=W (p.window+part)} else
  {p with errors:=0,wait:=3,zcj:=0,gathered:=W (p.gathered+bytes)}
def ycw (p:Path) (part:Int):Path :=
 {p with slow:=max (W (p.window.tdiv 2)) (W (4*part)),window:=min p.window (max (W (p.window.tdiv 2)) (W (4*part))),gathered:=0}
def late (p:Path) (part:Int):Path :=
 {p with slow:=max (W (p.window.tdiv 2)) (W (4*part)),window:=part,gathered:=0,zak:=0,errors:=W (p.errors+1),wait:=min (W (2*p.wait)) 24,zcj:=0}
def zdh (k:Nat):List Path->Int
 | []=>0
 | p::r=>if p.errors<=3 then k else zdh (k+1) r
theorem ysw (a b:Int):(if b<a then b else a)=min a b:=by omega
theorem ysv (a b:Int):(if b>a then b else a)=max a b:=by omega
theorem zpb (part:Int):zao Tryz.prog 67 [i64 part] zae (new part).hv zae:=by
 refine zap mixed Tryz.func67 zz5 ?_;(conv=>whnf)
 repeat' (first | (refine zah (fun h=>?_) (fun h=>?_)<;>conv=>whnf) | (refine zcp ?_;conv=>whnf))
 rfl
theorem yox (p:Path) (bytes part:Int) (moved:Bool):zao Tryz.prog 77 [p.hv,i64 bytes,i64 part,zbk moved] zae (zvz p bytes part moved).hv zae:=by
 cases moved
 all_goals refine zap mixed Tryz.func77 zz5 ?_
 all_goals conv=>whnf
 all_goals (repeat' (first | (refine zcp ?_;conv=>whnf) | (refine zaa ?_ ?_;(first | kernel_rfl | decide);conv=>whnf) | (refine zbe ?_ ?_;kernel_rfl;conv=>whnf) | (refine znk.go ?_;conv=>whnf) | (refine zbm ?_;(conv=>whnf);refine ⟨_,zkp ⟨_,_,_,_,_,_,_⟩ _,rfl,?_⟩;conv=>whnf) | (refine zah (fun h=>?_) (fun h=>?_)<;>conv=>whnf)))
 all_goals try simp only [zy2,zy54,zy62,zy41,zy20,zy49,zy42] at *
 all_goals simp only [zvz,W]
 all_goals (repeat' split)
 all_goals first | rfl | omega | (simp only [Path.hv,ysw,ysv,HV.agg.injEq,List.cons.injEq,HV.p.injEq,PV.v.injEq,Value.int.injEq,true_and,and_true]<;>first | omega | (congr 1;omega))
theorem zkp (p:Path) (part:Int):zao Tryz.prog 80 [p.hv,i64 part] zae (ycw p part).hv zae:=by
 refine zap mixed Tryz.func80 zz5 ?_;(conv=>whnf)
 (repeat' (first | (refine zcp ?_;conv=>whnf) | (refine zaa ?_ ?_;(first | kernel_rfl | decide);conv=>whnf) | (refine zbe ?_ ?_;kernel_rfl;conv=>whnf) | (refine znk.go ?_;conv=>whnf) | (refine zbm ?_;(conv=>whnf);refine ⟨_,zkp ⟨_,_,_,_,_,_,_⟩ _,rfl,?_⟩;conv=>whnf) | (refine zah (fun h=>?_) (fun h=>?_)<;>conv=>whnf)))
 all_goals try simp only [zy2,zy54,zy62,zy41,zy20,zy49,zy42] at *
 all_goals simp only [ycw,W]
 all_goals (repeat' split)
 all_goals first | rfl | omega | (simp only [Path.hv,ysw,ysv,HV.agg.injEq,List.cons.injEq,HV.p.injEq,PV.v.injEq,Value.int.injEq,true_and,and_true]<;>first | omega | (congr 1;omega))
theorem zvh (p:Path) (part:Int):zao Tryz.prog 91 [p.hv,i64 part] zae (late p part).hv zae:=by
 refine zap mixed Tryz.func91 zz5 ?_;(conv=>whnf)
 (repeat' (first | (refine zcp ?_;conv=>whnf) | (refine zaa ?_ ?_;(first | kernel_rfl | decide);conv=>whnf) | (refine zbe ?_ ?_;kernel_rfl;conv=>whnf) | (refine znk.go ?_;conv=>whnf) | (refine zbm ?_;(conv=>whnf);refine ⟨_,zkp ⟨_,_,_,_,_,_,_⟩ _,rfl,?_⟩;conv=>whnf) | (refine zah (fun h=>?_) (fun h=>?_)<;>conv=>whnf)))
 all_goals try simp only [zy2,zy54,zy62,zy41,zy20,zy49,zy42] at *
 all_goals simp only [late,W]
 all_goals (repeat' split)
 all_goals first | rfl | omega | (simp only [Path.hv,ysw,ysv,HV.agg.injEq,List.cons.injEq,HV.p.injEq,PV.v.injEq,Value.int.injEq,true_and,and_true]<;>first | omega | (congr 1;omega))
theorem zjw (p:Path):zao Tryz.prog 133 [p.hv] zae (zbk (decide (p.zak<p.window))) zae:=by
 refine zap mixed Tryz.func133 zz5 ?_;(conv=>whnf)
theorem zeg (ps:List Path) (hb:ps.length<2 ^ 62):zao Tryz.prog 79 [.p (.sl 7 (ps.map Path.row))] zae (i64 (zdh 0 ps)) zae:=by
 refine zap mixed Tryz.func79 zz5 ?_;(conv=>whnf);refine ⟨{k:Nat // k<=ps.length/\zdh k (ps.drop k)=zdh 0 ps},fun k=>hs 17 [(5,.p (.sl 7 (ps.map Path.row))),(6,i64 (ps.map Path.row).length),(7,i64 k.1)] [],fun k=>ps.length-k.1,⟨0,by simp⟩,?_,?_⟩
 . exact zdo [] rfl rfl rfl rfl ⟨⟨rfl,rfl⟩,⟨rfl,rfl⟩,⟨rfl,rfl⟩,trivial⟩ trivial
 . rintro ⟨k,hk,hi⟩
   (conv=>whnf);refine zah (fun h=>?_) (fun h=>?_)
   . have hlt:k<ps.length:=by simpa using h
     (conv=>whnf);refine zbz (r:=(ps[k]).row) zz4 zz63 ?_;(conv=>whnf);rw [zy26 hlt] at hi;simp only [zdh] at hi;refine zah (fun h=>?_) (fun h=>?_)
     . conv=>whnf
       rw [zy1 (by simp only [zy49] at h;omega)] at hi;rw [hi]
     . conv=>whnf
       refine zat (zbh zz3 zz3) ?_;(conv=>whnf);rw [zy0 (by simp only [zy42] at h;omega)] at hi;exact ⟨⟨k+1,hlt,hi⟩,zdo [] rfl rfl rfl rfl ⟨⟨rfl,rfl⟩,⟨rfl,rfl⟩,⟨rfl,by simp;rfl⟩,trivial⟩ trivial,by simp;omega⟩
   . conv=>whnf
     have hge:ps.length<=k:=by simpa using h
     rw [zy31 hge] at hi;rw [<- hi];rfl
end Paths
namespace Sch
abbrev qs (q:List zaf):HV:=.p (.sl 10 (q.map zaf.row))
def first (q:List zaf) (stream:Int):Int:=zbq (fun m:zaf=>m.message.stream==stream) 0 q
def after (q:List zaf) (last streams:Int):Nat->Nat->Int
 | _,0=>-1
 | k,n+1=>if first q ((W (W (last+1)+k)).tmod streams)>=0 then first q ((W (W (last+1)+k)).tmod streams) else after q last streams (k+1) n
theorem yiw (m:zaf) (stream:Int):zao Tryz.prog 186 [m.hv,.rp [pi stream]] zae (zbk (m.message.stream==stream)) zae:=by
 refine zap mixed Tryz.func186 zz5 ?_;(conv=>whnf)
theorem zqt (m:zaf) (s:ziy):zao Tryz.prog 163 [m.hv,.rp s.row] zae (zbk (m.id==s.hand)) zae:=by
 refine zap mixed Tryz.func163 zz5 ?_;(conv=>whnf)
theorem ymw {g:FuncId} {cs:List PV} {p:zaf->Bool} (hg:∀ m:zaf,zao Tryz.prog g [m.hv,.rp cs] zae (zbk (p m)) zae) (q:List zaf) (hb:q.length<2 ^ 62) :
 zao Tryz.prog 158 [qs q,.clo g [.rp cs]] zae (i64 (zbq p 0 q)) zae:=by
 refine zap mixed Tryz.func158 zz5 ?_;(conv=>whnf);refine ⟨{k:Nat // k<=q.length/\zbq p k (q.drop k)=zbq p 0 q},fun | ⟨k,_⟩=>hs 19 [(0,qs q),(1,.clo g [.rp cs]),(7,i64 (q.map zaf.row).length),(8,i64 k)] [],fun k=>q.length-k.1,⟨0,by simp⟩,?_,?_⟩
 . exact zdo [] rfl rfl rfl rfl ⟨⟨rfl,rfl⟩,⟨rfl,rfl⟩,⟨rfl,rfl⟩,⟨rfl,rfl⟩,trivial⟩ trivial
 . rintro ⟨k,hk,hi⟩
   (conv=>whnf);refine zah (fun h=>?_) (fun h=>?_)
   . have hlt:k<q.length:=by simpa using h
     (conv=>whnf);refine zbz (r:=(q[k]).row) zz4 zz63 ?_;(conv=>whnf);refine zfu (zw ?_);refine ⟨_,hg q[k],rfl,zw ?_⟩;rw [zy26 hlt] at hi;simp only [zbq] at hi;refine zah (fun h=>?_) (fun h=>?_)
     . conv=>whnf
       rw [zy1 h] at hi;rw [<- hi]
     . conv=>whnf
       rw [zy0 (by rw [h];decide)] at hi;refine zat (zbh zz0 zz0) ?_;(conv=>whnf);exact ⟨⟨k+1,hlt,hi⟩,zdo [] rfl rfl rfl rfl ⟨⟨rfl,rfl⟩,⟨rfl,rfl⟩,⟨rfl,rfl⟩,⟨rfl,by simp;rfl⟩,trivial⟩ trivial,by dsimp only;omega⟩
   . conv=>whnf
     have hge:q.length<=k:=by simpa using h
     rw [zy31 hge] at hi;rw [<- hi];rfl
theorem zmk (q:List zaf) (stream:Int) (hb:q.length<2 ^ 62):zao Tryz.prog 165 [qs q,i64 stream] zae (i64 (first q stream)) zae:=by
 refine zap mixed Tryz.func165 zz5 ?_;(conv=>whnf);refine zbm (zw ?_);refine ⟨_,ymw (fun m=>yiw m stream) q hb,rfl,?_⟩;(conv=>whnf)
 rfl
theorem yoy (q:List zaf) (last streams:Int) (h0:0<streams) (h9:streams<2 ^ 62) (hb:q.length<2 ^ 62):zao Tryz.prog 164 [qs q,i64 last,i64 streams] zae (i64 (after q last streams 0 streams.toNat)) zae:=by
 refine zap mixed Tryz.func164 zz5 ?_;(conv=>whnf);refine ⟨{k:Nat // (k:Int)<=streams/\after q last streams k (streams.toNat-k)=after q last streams 0 streams.toNat},fun | ⟨k,_⟩=>hs 25 [(0,qs q),(1,i64 last),(2,i64 streams),(9,i64 streams),(10,i64 k)] [],fun k=>streams.toNat-k.1,⟨0,by omega,rfl⟩,?_,?_⟩
 . exact zdo [] rfl rfl rfl rfl ⟨⟨rfl,rfl⟩,⟨rfl,rfl⟩,⟨rfl,rfl⟩,⟨rfl,rfl⟩,⟨rfl,rfl⟩,trivial⟩ trivial
 . rintro ⟨k,hk,hi⟩
   (conv=>whnf);refine zah (fun h=>?_) (fun h=>?_)
   . have hlt:(k:Int)<streams:=by simpa using h
     (conv=>whnf);refine zcp (zw ?_);refine zcp (zw ?_);refine zaa zz0 (zw ?_);refine zbm (zw ?_);refine ⟨_,zmk q _ hb,rfl,zw ?_⟩;obtain ⟨j,hj⟩:∃ j,streams.toNat-k=j+1:=⟨streams.toNat-k-1,by omega⟩
     rw [hj] at hi;simp only [after] at hi;refine zah (fun h=>?_) (fun h=>?_)
     . conv=>whnf
       rw [zy1 (zy43 h)] at hi;rw [<- hi]
     . conv=>whnf
       rw [zy0 (zy55 h)] at hi;refine zat (zbh zz0 zz0) ?_;(conv=>whnf);exact ⟨⟨k+1,by omega,by rw [show streams.toNat-(k+1)=j by omega];exact hi⟩,zdo [] rfl rfl rfl rfl ⟨⟨rfl,rfl⟩,⟨rfl,rfl⟩,⟨rfl,rfl⟩,⟨rfl,rfl⟩,⟨rfl,by simp;rfl⟩,trivial⟩ trivial,by dsimp only;omega⟩
   . conv=>whnf
     have hge:¬ (k:Int)<streams:=by simpa using h
     rw [show streams.toNat-k=0 by omega] at hi;rw [<- hi];rfl
def zew (q:List zaf) (had:List Int) (best:Int) (k:Nat):List Int->Int
 | []=>best
 | n::r=>if first q k>=0/\(best<0\/n<had[best.toNat]?.getD 0) then zew q had k (k+1) r else zew q had best (k+1) r
def least (s:ziy) (q:List zaf):Int:=if zew q s.had (-1) 0 s.had<0 then -1 else first q (zew q s.had (-1) 0 s.had)
theorem ypg (s:ziy) (q:List zaf) (h9:s.had.length<2 ^ 62) (hb:q.length<2 ^ 62):zao Tryz.prog 166 [s.hv,qs q] zae (i64 (least s q)) zae:=by
 refine zap mixed Tryz.func166 zz5 ?_;(conv=>whnf);refine ⟨{x:Nat×Int // x.1<=s.had.length/\x.2<s.had.length/\zew q s.had x.2 x.1 (s.had.drop x.1)=zew q s.had (-1) 0 s.had},fun | ⟨(k,best),_⟩=>hs 40 [(1,qs q),(2,.ptr 2 0),(5,i64 best),(9,ints s.had),(10,i64 (s.had.map fun n=>[pi n]).length),(11,i64 k)] [(2,.live (.cells 28 s.cells))],fun x=>s.had.length-x.1.1,⟨(0,-1),by simp,by dsimp only;omega,rfl⟩,?_,?_⟩
 . exact zdo [(2,some 2)] rfl rfl rfl rfl ⟨⟨rfl,rfl⟩,⟨rfl,rfl⟩,⟨rfl,rfl⟩,⟨rfl,rfl⟩,⟨rfl,rfl⟩,⟨rfl,rfl⟩,trivial⟩ ⟨⟨rfl,.inl ⟨2,rfl,rfl⟩⟩,trivial⟩
 . rintro ⟨⟨k,best⟩,hk,hlt2,hi⟩
   dsimp only at hk hlt2 hi;(conv=>whnf);refine zah (fun h=>?_) (fun h=>?_)
   . have hlt:k<s.had.length:=by simpa using h
     have hW:W ((k:Int)+1)=((k+1:Nat):Int):=xbm hlt h9;rw [zy26 hlt] at hi;simp only [zew] at hi;have fin:∀ {b':Int} {s':HS},b'<s.had.length->zew q s.had b' (k+1) (s.had.drop (k+1))=zew q s.had (-1) 0 s.had->s'.n=40->s'.pins=[]->s'.slot 1=qs q->s'.slot 2=.ptr 2 0->s'.slot 5=i64 b'->s'.slot 9=ints s.had->s'.slot 10=i64 (s.had.map fun n=>[pi n]).length->s'.slot 11=i64 (W (k+1)) ->
      s'.heap 2=.live (.cells 28 s.cells)->∃ x':{x:Nat×Int // x.1<=s.had.length/\x.2<s.had.length/\zew q s.had x.2 x.1 (s.had.drop x.1)=zew q s.had (-1) 0 s.had},HLe s' (match x' with | ⟨(k,best),_⟩=>hs 40 [(1,qs q),(2,.ptr 2 0),(5,i64 best),(9,ints s.had),(10,i64 (s.had.map fun n=>[pi n]).length),(11,i64 k)] [(2,.live (.cells 28 s.cells))])/\s.had.length-x'.1.1<s.had.length-k:=by
      intro b' s' a1 a2 a3 a4 a5 a6 a7 a8 a9 a10 a11;rw [hW] at a10;exact ⟨⟨(k+1,b'),hlt,a1,a2⟩,zdo [(2,some 2)] a3.symm a4.symm rfl rfl ⟨⟨rfl,a5.symm⟩,⟨rfl,a6.symm⟩,⟨rfl,a7.symm⟩,⟨rfl,a8.symm⟩,⟨rfl,a9.symm⟩,⟨rfl,a10.symm⟩,trivial⟩ ⟨⟨rfl,.inl ⟨2,rfl,a11⟩⟩,trivial⟩,by dsimp only;omega⟩
     (conv=>whnf);refine znk.go (zw ?_);refine zbz (r:=[pi s.had[k]]) zz0 zz63 ?_;(conv=>whnf);refine zbm (zw ?_);refine ⟨_,zmk q k hb,rfl,zw ?_⟩;refine zah (fun c1=>?_) (fun c1=>?_)
     . conv=>whnf
       refine zah (fun c2=>?_) (fun c2=>?_)
       . conv=>whnf
         refine zcp (zw ?_);rw [zy1 ⟨zy43 c1,.inl (zy43 c2)⟩] at hi;exact fin zz0 hi rfl rfl rfl rfl rfl rfl rfl rfl rfl
       . conv=>whnf
         have hb0:¬ best<0:=zy55 c2;refine zbz (r:=[pi s.had[best.toNat]]) zz0 (by simp [show best.toNat<s.had.length by omega]) ?_;(conv=>whnf);refine zah (fun c3=>?_) (fun c3=>?_)
         . conv=>whnf
           refine zcp (zw ?_);rw [zy1 ⟨zy43 c1,.inr (by simpa [show best.toNat<s.had.length by omega] using c3)⟩] at hi;exact fin zz0 hi rfl rfl rfl rfl rfl rfl rfl rfl rfl
         . conv=>whnf
           refine zcp (zw ?_);rw [zy0 (by rintro ⟨_,h | h⟩;exact hb0 h;have:=zy55 c3;simp [show best.toNat<s.had.length by omega] at h;omega)] at hi;exact fin zz0 hi rfl rfl rfl rfl rfl rfl rfl rfl rfl
     . conv=>whnf
       refine zcp (zw ?_);rw [zy0 (by rintro ⟨h,_⟩;exact zy55 c1 h)] at hi;exact fin zz0 hi rfl rfl rfl rfl rfl rfl rfl rfl rfl
   . have hge:s.had.length<=k:=by simpa using h
     rw [zy31 hge] at hi;simp only [zew] at hi;(conv=>whnf);refine zah (fun c1=>?_) (fun c1=>?_)
     . conv=>whnf
       rw [least,<- hi,zy1 (zy43 c1)]
     . conv=>whnf
       refine zbm (zw ?_);refine ⟨_,zmk q best hb,rfl,zw ?_⟩;rw [least,<- hi,zy0 (zy55 c1)]
def zfg (q:List zaf) (k:Nat):Nat->Int
 | 0=>-1
 | n+1=>if first q k>=0 then first q k else zfg q (k+1) n
def ydn (s:ziy) (q:List zaf):Int:=zbq (fun m:zaf=>m.id==s.hand) 0 q
def next (turns:Int) (s:ziy) (q:List zaf):Int :=
 if (q.length:Int)=0 then -1 else if (s.had.length:Int)=0 then -1 else
 if turns=2 then (if ydn s q>=0 then ydn s q else after q s.last s.had.length 0 s.had.length) else
 if turns=3 then after q s.last s.had.length 0 s.had.length else
 if turns=4 then zfg q 0 s.had.length else
 if turns=5 then least s q else 0
theorem zvi (turns:Int) (s:ziy) (q:List zaf) (h9:s.had.length<2 ^ 62) (hb:q.length<2 ^ 62):zao Tryz.prog 135 [i64 turns,s.hv,qs q] zae (i64 (next turns s q)) zae:=by
 refine zap mixed Tryz.func135 zz5 ?_;have hl:(s.had.map fun n=>[pi n]).length=s.had.length:=by simp
 have hl2:(q.map zaf.row).length=q.length:=by simp
 have haft:0<s.had.length->zao Tryz.prog 164 [qs q,i64 s.last,i64 (s.had.map fun n=>[pi n]).length] zae (i64 (after q s.last s.had.length 0 s.had.length)) zae:=by
  intro h0;have:=yoy q s.last s.had.length zz0 zz0 hb;rw [hl]
  simpa using this
 (conv=>whnf);refine zah (fun c1=>?_) (fun c1=>?_)
 . have c1:(q.length:Int)=0:=by simpa using c1
   (conv=>whnf);rw [next,zy1 c1]
 have c1:¬ (q.length:Int)=0:=by simpa using c1
 rw [next,zy0 c1];(conv=>whnf);refine zah (fun c2=>?_) (fun c2=>?_)
 . have c2:(s.had.length:Int)=0:=by simpa using c2
   (conv=>whnf);rw [zy1 c2]
 have c2:¬ (s.had.length:Int)=0:=by simpa using c2
 rw [zy0 c2];(conv=>whnf);refine zah (fun c3=>?_) (fun c3=>?_)
 . have c3:turns=2:=by simpa using c3
   rw [zy1 c3];(conv=>whnf);refine zbm (zw ?_);refine ⟨_,ymw (fun m=>zqt m s) q hb,rfl,?_⟩;show _;(conv=>whnf);refine zah (fun c4=>?_) (fun c4=>?_)
   . have c4:ydn s q>=0:=zy43 c4
     rw [zy1 c4];(conv=>whnf)
     rfl
   . have c4:¬ ydn s q>=0:=zy55 c4
     rw [zy0 c4];(conv=>whnf);refine zbm (zw ?_);refine ⟨_,haft zz0,rfl,?_⟩;(conv=>whnf)
 have c3:¬ turns=2:=by simpa using c3
 rw [zy0 c3];(conv=>whnf);refine zah (fun c4=>?_) (fun c4=>?_)
 . have c4:turns=3:=by simpa using c4
   rw [zy1 c4];(conv=>whnf);refine zbm (zw ?_);refine ⟨_,haft zz0,rfl,?_⟩;(conv=>whnf)
 have c4:¬ turns=3:=by simpa using c4
 rw [zy0 c4];(conv=>whnf);refine zah (fun c5=>?_) (fun c5=>?_)
 . have c5:turns=4:=by simpa using c5
   rw [zy1 c5];(conv=>whnf);refine ⟨{k:Nat // k<=s.had.length/\zfg q k (s.had.length-k)=zfg q 0 s.had.length},fun | ⟨k,_⟩=>hs 64 [(2,qs q),(47,i64 s.had.length),(48,i64 k)] [],fun k=>s.had.length-k.1,⟨0,by omega,rfl⟩,?_,?_⟩
   . exact zdo [] rfl rfl rfl rfl ⟨⟨rfl,rfl⟩,⟨rfl,by rw [<- hl];rfl⟩,⟨rfl,rfl⟩,trivial⟩ trivial
   . rintro ⟨k,hk,hi⟩
     (conv=>whnf);refine zah (fun h=>?_) (fun h=>?_)
     . have hlt:k<s.had.length:=by simpa using h
       (conv=>whnf);refine zbm (zw ?_);refine ⟨_,zmk q k hb,rfl,zw ?_⟩;obtain ⟨j,hj⟩:∃ j,s.had.length-k=j+1:=⟨s.had.length-k-1,by omega⟩
       rw [hj] at hi;simp only [zfg] at hi;refine zah (fun h=>?_) (fun h=>?_)
       . conv=>whnf
         rw [zy1 (zy43 h)] at hi;rw [<- hi]
       . conv=>whnf
         rw [zy0 (zy55 h)] at hi;refine zat (zbh zz0 zz0) ?_;(conv=>whnf);exact ⟨⟨k+1,by omega,by rw [show s.had.length-(k+1)=j by omega];exact hi⟩,zdo [] rfl rfl rfl rfl ⟨⟨rfl,rfl⟩,⟨rfl,rfl⟩,⟨rfl,by simp;rfl⟩,trivial⟩ trivial,by dsimp only;omega⟩
     . conv=>whnf
       have hge:s.had.length<=k:=by simpa using h
       rw [show s.had.length-k=0 by omega] at hi;rw [<- hi];rfl
 have c5:¬ turns=4:=by simpa using c5
 rw [zy0 c5];(conv=>whnf);refine zah (fun c6=>?_) (fun c6=>?_)
 . have c6:turns=5:=by simpa using c6
   rw [zy1 c6];(conv=>whnf);refine zbm (zw ?_);refine ⟨_,ypg s q h9 hb,rfl,?_⟩;(conv=>whnf)
 have c6:¬ turns=5:=by simpa using c6
 rw [zy0 c6];(conv=>whnf)
theorem ypa (l:List Int) (hb:l.length<2 ^ 40):zao Tryz.prog 74 [ints l] zae (.own 0) (lk .free [(0,.live (.row 3 1 (l.map fun n=>[pi n])))]):=by
 refine zan mixed Tryz.func74 zz5 [] (fun _=>.inl rfl) ?_;(conv=>whnf);intro b hn;(conv=>whnf);refine zah (fun c=>?_) (fun c=>?_)
 . conv=>whnf
   exact yy14
 . conv=>whnf
   refine zaa (c:=(([]:List (List PV)).length+(l.map fun n=>[pi n]).length)*8<=140737488355328) zz3 ?_;exact yy9
theorem zdb (s:ziy) (hb:s.had.length<2 ^ 40):zao Tryz.prog 71 [s.hv] zae (.agg [i64 s.last,i64 s.hand,.own 0]) (lk .free [(0,.live (.row 3 1 (s.had.map fun n=>[pi n])))]):=by
 refine zan mixed Tryz.func71 zz5 [] (fun _=>.inl rfl) ?_;(conv=>whnf);refine zas [(0,5)] (zw ?_);refine ⟨_,_,ypa s.had hb,⟨⟨⟨rfl,rfl⟩,trivial⟩,rfl,rfl,rfl⟩,?_⟩;(conv=>whnf);exact zam [(0,some 5)] rfl rfl trivial rfl rfl ⟨⟨rfl,.inl ⟨5,rfl,rfl⟩⟩,trivial⟩
def had (s:ziy) (m:zaf) (bytes:Int) (yqf:Bool):ziy :=
 ⟨m.message.stream,if yqf then -1 else m.id,if 0<=m.message.stream/\m.message.stream<s.had.length then s.had.set m.message.stream.toNat (W (s.had[m.message.stream.toNat]?.getD 0+bytes)) else s.had⟩
def new (n:Int):ziy:=⟨W (n-1),-1,List.replicate (max n 0).toNat 0⟩
end Sch
namespace Ser
abbrev zau (l:List Span):HV:=.p (.sl 2 (l.map Span.row))
def tag (n:Int):Int:=n % 65536
def zdf (a t:Int):Int:=W (a+(if tag (W (t-a))>32768 then tag (W (t-a))-65536 else tag (W (t-a))))
theorem yge (n:Int):0<=tag n/\tag n<65536:=by unfold tag;omega
theorem xib (z:Int):tag (W z)=tag z:=by
 unfold tag W IntKind.wrap;simp [IntKind.bits,IntKind.signed];omega
theorem zlo {a t:Int} (h1:-(2 ^ 61)<=a) (h2:a<=2 ^ 61):a-32767<=zdf a t/\zdf a t<=a+32768/\tag (zdf a t)=tag t:=by
 have h3:=yge (W (t-a));have h4:=xib (t-a);unfold zdf;split
 . rw [zbh (by omega) (by omega)];refine ⟨by omega,by omega,?_⟩;rw [h4];unfold tag;omega
 . rw [zbh (by omega) (by omega)];refine ⟨by omega,by omega,?_⟩;rw [h4];unfold tag;omega
def has (l:List Span) (n:Int):Bool:=l.any fun s=>decide (s.lo<=n)&&decide (n<=s.hi)
theorem zcv (n:Int):zao Tryz.prog 121 [i64 n] zae (i64 (tag n)) zae:=by
 refine zap mixed Tryz.func121 zz5 ?_;(conv=>whnf);show i64 (bits .and .i64 n 65535)=_;rw [xbr];rfl
theorem zjv (a t:Int):zao Tryz.prog 76 [i64 a,i64 t] zae (i64 (zdf a t)) zae:=by
 refine zap mixed Tryz.func76 zz5 ?_;have h3:=yge (W (t-a));(conv=>whnf);refine sR ?_
 (refine cL ?_;refine dL (zcv _) ?_)
 (try refine sG ?_)
 refine zah (fun c=>?_) (fun c=>?_)
 . have c:tag (W (t-a))>32768:=by simpa using c
   (conv=>whnf);refine zat (z:=tag (W (t-a))-65536) (zbh zz0 zz0) (zw ?_);refine sR ?_;rw [zdf,zy1 c]
 . have c:¬ tag (W (t-a))>32768:=by simpa using c
   (conv=>whnf);refine sR ?_;rw [zdf,zy0 c]
theorem yxn {g:FuncId} {cs:List PV} {p:Span->Bool} (hg:∀ m:Span,zao Tryz.prog g [m.hv,.rp cs] zae (zbk (p m)) zae) (q:List Span) (hb:q.length<2 ^ 62) :
 zao Tryz.prog 185 [.p (.sl 2 (q.map Span.row)),.clo g [.rp cs]] zae (i64 (zbq p 0 q)) zae:=by
 refine zap mixed Tryz.func185 zz5 ?_;(conv=>whnf);refine ⟨{k:Nat // k<=q.length/\zbq p k (q.drop k)=zbq p 0 q},fun | ⟨k,_⟩=>hs 19 [(0,.p (.sl 2 (q.map Span.row))),(1,.clo g [.rp cs]),(7,i64 (q.map Span.row).length),(8,i64 k)] [],fun k=>q.length-k.1,⟨0,by simp⟩,?_,?_⟩
 . exact (zdx [])
 . rintro ⟨k,hk,hi⟩
   exact yy5
theorem yuz (s:Span) (n:Int):zao Tryz.prog 156 [s.hv,.rp [pi n]] zae (zbk (decide (s.lo<=n)&&decide (n<=s.hi))) zae:=by
 refine zap mixed Tryz.func156 zz5 ?_;(conv=>whnf);refine zah (fun c=>?_) (fun c=>?_)<;>conv=>whnf
 . show zbk (decide (n<=s.hi))=_;rw [show decide (s.lo<=n)=true from c,zy155]
 . rw [show decide (s.lo<=n)=false from c,Bool.false_and]
theorem zzv {α:Type} {p:α->Bool}:∀ (l:List α) (k:Nat),decide (zbq p k l>=0)=l.any p
 | [],k=>rfl
 | x::r,k=>by
  simp only [zbq,List.any_cons];split
  . rename_i h;rw [h];simp
  . rename_i h;rw [zzv r];simp [h]
theorem yay {g:FuncId} {cs:List PV} {p:Span->Bool} (hg:∀ m:Span,zao Tryz.prog g [m.hv,.rp cs] zae (zbk (p m)) zae) (q:List Span) (hb:q.length<2 ^ 62) :
 zao Tryz.prog 155 [zau q,.clo g [.rp cs]] zae (zbk (q.any p)) zae:=by
 refine zap mixed Tryz.func155 zz5 ?_;(conv=>whnf)
 (refine cZ ?_;refine dL (yxn hg q hb) ?_)
 show zbk (decide (zbq p 0 q>=0))=_;rw [zzv]
theorem ymv (l:List Span) (n:Int) (hb:l.length<2 ^ 62):zao Tryz.prog 120 [zau l,i64 n] zae (zbk (has l n)) zae:=by
 refine zap mixed Tryz.func120 zz5 ?_;(conv=>whnf)
 (refine cL ?_;refine dL (yay (fun m=>yuz m n) l hb) ?_)
 rfl
end Ser
namespace Sco
open Ser
abbrev zsd (l:List zbr):HV:=.p (.sl 20 (l.map zbr.row))
abbrev zbw (l:List zga):HV:=.p (.sl 3 (l.map zga.row))
abbrev zjs (l:List zbr):zad:=.live (.row 134 20 (l.map zbr.row))
abbrev yzl (l:List zga):zad:=.live (.row 180 3 (l.map zga.row))
abbrev yqc (l:List Int):zad:=.live (.row 3 1 (l.map fun n=>[pi n]))
def total (l:List zbr):Nat:=(l.map fun s=>s.chunk.data.length).sum
theorem zjz (a b:List zbr):total (a++b)=total a+total b:=by simp [total]
theorem zhl (s:zbr) (b:List zbr):total (s::b)=s.chunk.data.length+total b:=by simp [total]
structure zgb (l:List zbr):Prop where
 len:l.length<2 ^ 38
 bytes:total l<2 ^ 38
theorem zct (l:List UInt8) (hb:l.length<2 ^ 40):zao Tryz.prog 70 [.p (.sl 1 (l.map zdu))] zae (.own 0) (lk .free [(0,.live (.row 5 1 (l.map zdu)))]):=by
 refine zan mixed Tryz.func70 zz5 [] (fun _=>.inl rfl) ?_;(conv=>whnf);intro b hn;(conv=>whnf);refine zah (fun c=>?_) (fun c=>?_)
 . conv=>whnf
   exact yy14
 . conv=>whnf
   refine zaa (c:=(([]:List (List PV)).length+(l.map zdu).length)*1<=140737488355328) zz3 ?_;exact yy9
theorem ygv (l:List zga) (hb:l.length<2 ^ 40):zao Tryz.prog 157 [.p (.sl 3 (l.map zga.row))] zae (.own 0) (lk .free [(0,.live (.row 180 3 (l.map zga.row)))]):=by
 refine zan mixed Tryz.func157 zz5 [] (fun _=>.inl rfl) ?_;(conv=>whnf);intro b hn;(conv=>whnf);refine zah (fun c=>?_) (fun c=>?_)
 . conv=>whnf
   exact yy14
 . conv=>whnf
   refine zaa (c:=(([]:List (List PV)).length+(l.map zga.row).length)*24<=140737488355328) zz3 ?_;exact yy9
theorem zdb (l:List zbr) (hl:zgb l):zao Tryz.prog 72 [zsd l] zae (.own 0) (lk .free [(0,zjs l)]):=by
 obtain ⟨hl1,hl2⟩:=hl;refine zan mixed Tryz.func72 zz5 [] (fun _=>.inl rfl) ?_;(conv=>whnf);refine ⟨{x:List zbr×List zbr // l=x.1++x.2},fun | ⟨(a,b),_⟩=>hs 24 [(3,.own 900),(6,zsd l),(7,i64 l.length),(8,i64 a.length)] [(900,zjs a)],fun x=>x.1.2.length,⟨([],l),rfl⟩,?_,?_⟩
 . exact (zdx [(900,none)])
 rintro ⟨⟨a,b⟩,h⟩;dsimp only at h;cases b with
 | nil =>
  have hz:=zcw h;(conv=>whnf);refine sN ?_;refine zam [(0,some 900)] rfl rfl trivial rfl rfl ⟨⟨rfl,.inl ⟨900,rfl,?_⟩⟩,trivial⟩;show zjs a=zjs l;rw [h,zy8]
 | cons s b =>
  have hz:=zcf h;rw [h,zjz,zhl] at hl2;(conv=>whnf);refine sT ?_;refine zal h rfl (zw ?_)
  (refine zas [(0,15)]  ?_;(conv=>whnf);refine dO (zct s.chunk.data zz0) ?_)
  refine zaa (c:=((a.map zbr.row).length+1)*200<=140737488355328) om ?_;(conv=>whnf);refine sF ?_;exact ⟨⟨(a++[s],b),zar h⟩,(zcr [(900,some 21)] zz54),by simp⟩
def fl (path:Int) (l:List zbr):Nat:=(l.map fun s=>if s.state=1/\s.path=path then s.chunk.data.length else 0).sum
theorem yrc (p:Int) (a b:List zbr):fl p (a++b)=fl p a+fl p b:=by simp [fl]
theorem zww (p:Int) (s:zbr):fl p [s]=if s.state=1/\s.path=p then s.chunk.data.length else 0:=by simp [fl]
theorem xcv (p:Int):∀ l:List zbr,fl p l<=total l
 | []=>by simp [fl,total]
 | s::r=>by
  have:=xcv p r;simp only [fl,total,zy24,zy100] at this ⊢;split<;>omega
theorem znt (l:List zbr) (path:Int) (hl:zgb l):zao Tryz.prog 122 [zsd l,i64 path] zae (i64 (fl path l)) zae:=by
 obtain ⟨hl1,hl2⟩:=hl;refine zap mixed Tryz.func122 zz5 ?_;(conv=>whnf);refine ⟨{x:List zbr×List zbr // l=x.1++x.2},fun | ⟨(a,b),_⟩=>hs 31 [(1,i64 path),(5,i64 (fl path a)),(8,zsd l),(9,i64 l.length),(10,i64 a.length)] [],fun x=>x.1.2.length,⟨([],l),rfl⟩,?_,?_⟩
 . exact (zdx [])
 rintro ⟨⟨a,b⟩,h⟩;dsimp only at h;cases b with
 | nil =>
  have hz:=zcw h;(conv=>whnf);refine sN ?_;rw [h,zy8]
 | cons s b =>
  have hz:=zcf h;have hf:=xcv path a;rw [h,zjz,zhl] at hl2;have e1:=yrc path a [s];rw [zww] at e1;(conv=>whnf);refine sT ?_
  (try refine sG ?_)
  refine zal h rfl (zw ?_);refine zah (fun c1=>?_) (fun c1=>?_)
  . conv=>whnf
    refine zah (fun c2=>?_) (fun c2=>?_)
    . conv=>whnf
      rw [zy1 ⟨by simpa using c1,by simpa using c2⟩] at e1;refine sF ?_;refine sF ?_;exact ⟨⟨(a++[s],b),zar h⟩,(zcr [] zz29),by simp⟩
    . conv=>whnf
      rw [zy0 (by rintro ⟨h1,h2⟩;simp [h2] at c2)] at e1;refine sF ?_;exact ⟨⟨(a++[s],b),zar h⟩,(zcr [] zz29),by simp⟩
  . conv=>whnf
    rw [zy0 (by rintro ⟨h1,h2⟩;simp [h1] at c1)] at e1;refine sF ?_;exact ⟨⟨(a++[s],b),zar h⟩,(zcr [] zz29),by simp⟩
def zie (id:Int) (s:zbr):zbr:=if s.id=id/\s.state≠2 then {s with state:=4} else s
def late (path:Int) (s:zbr):zbr:=if s.state=1/\s.path=path then {s with state:=3} else s
theorem zoy (l:List zbr) (id:Int) (hl:zgb l):zao Tryz.prog 162 [zsd l,i64 id] zae (.own 0) (lk .free [(0,zjs (l.map (zie id)))]):=by
 have hl1:=hl.len;refine zan mixed Tryz.func162 zz5 [] (fun _=>.inl rfl) ?_;(conv=>whnf)
 (refine zas [(0,8)]  ?_;(conv=>whnf);refine dO (zdb l hl) ?_)
 refine ⟨{x:List zbr×List zbr // l=x.1++x.2},fun | ⟨(a,b),_⟩=>hs 35 [(1,i64 id),(5,.own 900),(10,i64 l.length),(11,i64 a.length)] [(900,zjs (a.map (zie id)++b))],fun x=>x.1.2.length,⟨([],l),rfl⟩,?_,?_⟩
 . exact (zdx [(900,some 8)])
 rintro ⟨⟨a,b⟩,h⟩;dsimp only at h;cases b with
 | nil =>
  have hz:=zcw h;(conv=>whnf);refine sN ?_;refine zam [(0,some 900)] rfl rfl trivial rfl rfl ⟨⟨rfl,.inl ⟨900,rfl,?_⟩⟩,trivial⟩;show zjs (a.map (zie id)++[])=zjs (l.map (zie id));rw [h,zy8,zy8]
 | cons s b =>
  have hz:=zcf h;have hm:a.length=(a.map (zie id)).length:=by simp
  have e0:(a++[s]).map (zie id)++b=a.map (zie id)++zie id s::b:=by simp
  (conv=>whnf);refine sT ?_
  (try refine sG ?_)
  refine sO ?_;refine zal (a:=a.map (zie id)) (b:=b) (s:=s) rfl zz4 (zw ?_);refine zah (fun c1=>?_) (fun c1=>?_)
  . conv=>whnf
    refine sO ?_;refine zal (a:=a.map (zie id)) (b:=b) (s:=s) rfl zz4 (zw ?_);refine zah (fun c2=>?_) (fun c2=>?_)
    . have e1:zie id s={s with state:=4}:=zy1 ⟨by simpa using c1,by simpa using c2⟩
      (conv=>whnf);refine sO ?_;refine zal (a:=a.map (zie id)) (b:=b) (s:=s) rfl zz4 (zw ?_);refine sF ?_;exact ⟨⟨(a++[s],b),zar h⟩,(zcr [(900,some 900)] zz36),by simp⟩
    . have e1:zie id s=s:=zy0 (by rintro ⟨_,h2⟩;exact h2 (by simpa using c2))
      exact yy33
  . have e1:zie id s=s:=zy0 (by rintro ⟨h2,_⟩;simp [h2] at c1)
    exact yy33
theorem zvh (l:List zbr) (path:Int) (hl:zgb l):zao Tryz.prog 90 [zsd l,i64 path] zae (.own 0) (lk .free [(0,zjs (l.map (late path)))]):=by
 have hl1:=hl.len;refine zan mixed Tryz.func90 zz5 [] (fun _=>.inl rfl) ?_;(conv=>whnf)
 (refine zas [(0,8)]  ?_;(conv=>whnf);refine dO (zdb l hl) ?_)
 refine ⟨{x:List zbr×List zbr // l=x.1++x.2},fun | ⟨(a,b),_⟩=>hs 35 [(1,i64 path),(5,.own 900),(10,i64 l.length),(11,i64 a.length)] [(900,zjs (a.map (late path)++b))],fun x=>x.1.2.length,⟨([],l),rfl⟩,?_,?_⟩
 . exact (zdx [(900,some 8)])
 rintro ⟨⟨a,b⟩,h⟩;dsimp only at h;cases b with
 | nil =>
  have hz:=zcw h;(conv=>whnf);refine sN ?_;refine zam [(0,some 900)] rfl rfl trivial rfl rfl ⟨⟨rfl,.inl ⟨900,rfl,?_⟩⟩,trivial⟩;show zjs (a.map (late path)++[])=zjs (l.map (late path));rw [h,zy8,zy8]
 | cons s b =>
  have hz:=zcf h;have hm:a.length=(a.map (late path)).length:=by simp
  have e0:(a++[s]).map (late path)++b=a.map (late path)++late path s::b:=by simp
  (conv=>whnf);refine sT ?_
  (try refine sG ?_)
  refine sO ?_;refine zal (a:=a.map (late path)) (b:=b) (s:=s) rfl zz4 (zw ?_);refine zah (fun c1=>?_) (fun c1=>?_)
  . conv=>whnf
    refine sO ?_;refine zal (a:=a.map (late path)) (b:=b) (s:=s) rfl zz4 (zw ?_);refine zah (fun c2=>?_) (fun c2=>?_)
    . have e1:late path s={s with state:=3}:=zy1 ⟨by simpa using c1,by simpa using c2⟩
      (conv=>whnf);refine sO ?_;refine zal (a:=a.map (late path)) (b:=b) (s:=s) rfl zz4 (zw ?_);refine sF ?_;exact ⟨⟨(a++[s],b),zar h⟩,(zcr [(900,some 900)] zz36),by simp⟩
    . have e1:late path s=s:=zy0 (by rintro ⟨_,h2⟩;simp [h2] at c2)
      exact yy33
  . have e1:late path s=s:=zy0 (by rintro ⟨h2,_⟩;simp [h2] at c1)
    exact yy33
def zkl (c:Chunk) (s:zga):Bool:=s.stream==c.stream&&s.ordered==c.ordered&&(c.ordered||s.mid==c.mid)
def skip (c:Chunk):List zga->List zga
 | []=>[⟨c.stream,c.mid,c.ordered⟩]
 | s::r=>if zkl c s then ⟨s.stream,c.mid,s.ordered⟩::r else s::skip c r
theorem zvc {c:Chunk}:∀ {a:List zga},(∀ s∈a,zkl c s=false)->∀ b,skip c (a++b)=a++skip c b
 | [],_,b=>rfl
 | s::r,h,b=>by
  rw [zy38,skip,zy0 (by rw [h s (by simp)];decide),zvc fun x hx=>h x zz38];rfl
theorem zvk (l:List zga) (c:Chunk) (hl:l.length<2 ^ 38):zao Tryz.prog 123 [zbw l,c.hv] zae (.own 0) (lk .free [(0,yzl (skip c l))]):=by
 refine zan mixed Tryz.func123 zz5 [] (fun _=>.inl rfl) ?_;(conv=>whnf)
 (refine zas [(0,9)]  ?_;(conv=>whnf);refine dO (ygv l zz0) ?_)
 refine ⟨{x:List zga×List zga // l=x.1++x.2/\∀ s∈x.1,zkl c s=false},fun | ⟨(a,b),_⟩=>hs 58 [(3,.ptr 3 0),(5,.own 900),(10,.own 900),(11,i64 l.length),(12,i64 a.length)] [(3,.live (.cells 61 c.cells)),(900,yzl l)],fun x=>x.1.2.length,⟨([],l),rfl,by simp⟩,?_,?_⟩
 . exact (zdx [(3,some 3),(900,some 9)])
 rintro ⟨⟨a,b⟩,h,hno⟩;dsimp only at h hno;cases b with
 | nil =>
  have hz:=zcw h;(conv=>whnf);refine sN ?_;refine zaa (c:=((l.map zga.row).length+1)*24<=140737488355328) om (zw ?_);refine zam [(0,some 57)] rfl rfl trivial rfl rfl ⟨⟨rfl,.inl ⟨57,rfl,?_⟩⟩,trivial⟩;have e1:=zvc hno [];rw [<- h] at e1;exact (ziw (f:=zga.row) (a:=l) (x:=⟨c.stream,c.mid,c.ordered⟩) (by rw [e1,h,zy8];rfl)).symm
 | cons s b =>
  have hz:=zcf h;have yes:zkl c s=true->skip c l=a++⟨s.stream,c.mid,s.ordered⟩::b:=by
   intro hm;rw [h,zvc hno,skip,zy1 hm]
  have nxt:zkl c s=false->∀ x∈a++[s],zkl c x=false:=by
   intro hm x hx;rcases zy17.1 hx with hx | hx
   . exact hno x hx
   . rw [zy23.1 hx];exact hm
  (conv=>whnf);refine sT ?_;refine sO ?_;refine zal h rfl (zw ?_);have hy:zkl c s=true->zad.live (zia.row 180 3 (((l.map zga.row).set a.length [pi s.stream,pi c.mid,pb s.ordered])))=yzl (skip c l):=by
   intro hm;rw [yes hm,h];exact (zer (f:=zga.row) (a:=a) (b:=b) (x:=s) (y:=⟨s.stream,c.mid,s.ordered⟩) rfl rfl).symm
  simp only [zkl] at hy nxt;refine zah (fun c1=>?_) (fun c1=>?_)
  . conv=>whnf
    refine zah (fun c2=>?_) (fun c2=>?_)
    . conv=>whnf
      refine zah (fun c3=>?_) (fun c3=>?_)
      . conv=>whnf
        refine sO ?_;refine zal h rfl (zw ?_);refine zam [(0,some 900)] rfl rfl trivial rfl rfl ⟨⟨rfl,.inl ⟨900,rfl,?_⟩⟩,trivial⟩;exact hy (by rw [c1,c2,c3];rfl)
      . conv=>whnf
        refine zah (fun c4=>?_) (fun c4=>?_)
        . conv=>whnf
          refine sO ?_;refine zal h rfl (zw ?_);refine zam [(0,some 900)] rfl rfl trivial rfl rfl ⟨⟨rfl,.inl ⟨900,rfl,?_⟩⟩,trivial⟩;exact hy (by rw [c1,c2,c3,c4];rfl)
        . conv=>whnf
          refine sF ?_;exact ⟨⟨(a++[s],b),zar h,nxt (by simp only [c3,c4];simp)⟩,(zdx [(3,some 3),(900,some 900)]),by simp⟩
    . conv=>whnf
      refine sF ?_;exact ⟨⟨(a++[s],b),zar h,nxt (by simp only [c2];simp)⟩,(zdx [(3,some 3),(900,some 900)]),by simp⟩
  . conv=>whnf
    refine sF ?_;exact ⟨⟨(a++[s],b),zar h,nxt (by simp only [c1];simp)⟩,(zdx [(3,some 3),(900,some 900)]),by simp⟩
theorem ymr (c:Chunk):∀ l:List zga,(skip c l).length<=l.length+1
 | []=>by simp [skip]
 | s::r=>by
  have:=ymr c r;simp only [skip];split<;>simp<;>omega
def zfo (cum:Int) (sk:List zga):List zbr->Int×List zga
 | []=>(cum,sk)
 | s::r=>if s.number≠W (cum+1)\/(s.state≠4/\s.state≠2) then (cum,sk) else
  if s.state=4 then (if (skip s.chunk sk).length>8 then (cum,sk) else zfo s.number (skip s.chunk sk) r) else zfo s.number sk r
def zdy (l:List zbr) (cum:Int):Int×List zga:=zfo cum [] l
end Sco
namespace Sco
open Ser
def here (c:Chunk) (n:Int) (s:zbr):Bool:=decide (s.number<=n)||has c.zau (W (s.number-n))
def comes (c:Chunk) (n:Int) (s:zbr):Bool:=here c n s&&(s.state==1||s.state==3)
def zbp (c:Chunk) (n:Int) (s:zbr):zbr:=if comes c n s then {s with state:=2} else s
def left (c:Chunk) (n:Int) (l:List zbr):List zbr:=(l.filter fun s=>decide (s.number>n)).map (zbp c n)
def zym (zfw:List Int) (p x:Int):List Int:=zfw.set p.toNat (W (zfw[p.toNat]?.getD 0+x))
def zic (c:Chunk) (n:Int) (zfw:List Int) (s:zbr):List Int:=if comes c n s then zym zfw s.path s.chunk.data.length else zfw
def zre (c:Chunk) (n:Int) (paths:Nat) (l:List zbr):List Int:=l.foldl (zic c n) (List.replicate paths 0)
def znm (c:Chunk) (n:Int) (h:Int) (s:zbr):Int:=if comes c n s then s.number else h
def zku (c:Chunk) (n:Int) (l:List zbr):Int:=l.foldl (znm c n) 0
def age (h:Int) (s:zbr):zbr:=if s.state=1/\s.number<h then (if W (s.missed+1)>=3 then {s with missed:=W (s.missed+1),state:=3} else {s with missed:=W (s.missed+1)}) else s
def lost (h:Int) (l:List zbr):List Int:=(l.filter fun s=>decide (s.state=1/\s.number<h/\W (s.missed+1)>=3)).map zbr.number
def zfq (l:List zbr) (cum:Int) (c:Chunk) (paths:Int):List zbr×Int×List Int×List Int :=
 if zdf cum c.tag<cum\/zdf cum c.tag>cum+l.length then (l,cum,List.replicate paths.toNat 0,[]) else
  ((left c (zdf cum c.tag) l).map (age (zku c (zdf cum c.tag) l)),zdf cum c.tag,zre c (zdf cum c.tag) paths.toNat l,lost (zku c (zdf cum c.tag) l) (left c (zdf cum c.tag) l))
structure ynh (l:List zbr) (cum paths:Int):Prop where
 path:∀ s∈l,0<=s.path/\s.path<paths
 p0:1<=paths
 p1:paths<=2
 c0:-1<=cum
 c1:cum<2 ^ 39
 zky:∀ (i:Nat) s,l[i]?=some s->s.number=cum+1+i
theorem ynh.at {l:List zbr} {cum paths:Int} (h:ynh l cum paths) {a b:List zbr} {s:zbr} (e:l=a++s::b):s.number=cum+1+a.length/\0<=s.path/\s.path<paths :=
 ⟨h.zky a.length s (by rw [e];simp),h.path s (zks e)⟩
theorem yqg (zfw:List Int) (p x:Int):(zym zfw p x).length=zfw.length:=by simp [zym]
theorem zwp (c:Chunk) (n:Int) (paths:Nat) (l:List zbr):(zre c n paths l).length=paths:=by
 have gen:∀ (l:List zbr) (z:List Int),(l.foldl (zic c n) z).length=z.length:=by
  intro l
  induction l with
  | nil=>intro z;rfl
  | cons s r ih=>intro z;rw [zy39,ih,zic];split;exact yqg _ _ _;rfl
 rw [zre,gen];simp
structure SI (l:List zbr) (c:Chunk) (n:Int) (paths:Nat) (cum:Int) (x:List zbr×List zbr×List zbr×List Int×Int):Prop where
 split:l=x.1++x.2.1
 out:x.2.2.1=left c n x.1
 zfw:x.2.2.2.1=zre c n paths x.1
 high:x.2.2.2.2=zku c n x.1
 h0:0<=x.2.2.2.2
 h1:x.2.2.2.2<=cum+1+x.1.length
theorem yss (c:Chunk) (n:Int) (a:List zbr) (s:zbr):left c n (a++[s])=left c n a++if s.number>n then [zbp c n s] else []:=by
 simp only [left,zy53,zy36];congr 1;by_cases h:s.number>n<;>simp [h]
theorem ygw (c:Chunk) (n:Int) (p:Nat) (a:List zbr) (s:zbr):zre c n p (a++[s])=zic c n (zre c n p a) s:=by simp [zre]
theorem yhp (c:Chunk) (n:Int) (a:List zbr) (s:zbr):zku c n (a++[s])=znm c n (zku c n a) s:=by simp [zku]
section
variable {l a b out:List zbr} {c:Chunk} {n cum high:Int} {paths:Nat} {zfw:List Int} {s:zbr}
theorem SI.next (h:SI l c n paths cum (a,s::b,out,zfw,high)) (hs:s.number=cum+1+a.length) (hc:-1<=cum) :
 SI l c n paths cum (a++[s],b,out++(if s.number>n then [zbp c n s] else []),zic c n zfw s,znm c n high s):=by
 obtain ⟨h1,h2,h3,h4,h5,h6⟩:=h;dsimp only at h1 h2 h3 h4 h5 h6;refine ⟨zar h1,?_,?_,?_,?_,?_⟩<;>dsimp only
 . rw [yss,h2]
 . rw [ygw,h3]
 . rw [yhp,h4]
 . rw [znm];split<;>omega
 . rw [znm];simp only [zy6,zy5,zy14];split<;>push_cast<;>omega
end
end Sco
namespace Chk
abbrev yuu (l:List Span):HV:=.p (.sl 2 (l.map Span.row))
abbrev yus (l:List zga):HV:=.p (.sl 3 (l.map zga.row))
def small (n:Int):Bool:=decide (0<=n/\n<65536)
def zfi (last:Int):List Span->Int
 | []=>0
 | s::r=>if s.lo<=last\/s.hi<s.lo\/¬ (0<=s.hi/\s.hi<65536) then 3 else zfi (s.hi+1) r
def zfh:List zga->Int
 | []=>0
 | s::r=>if s.stream<0\/s.stream>=4\/¬ (0<=s.mid/\s.mid<65536) then 3 else zfh r
def zda (c:Chunk):Int :=
 if c.kind<1\/c.kind>3 then 1 else
 if ¬ (0<=c.tag/\c.tag<65536) then 3 else
 if c.kind=1 then
  if c.stream<0\/c.stream>=4\/¬ (0<=c.mid/\c.mid<65536)\/c.part<0\/c.part>255 then 3 else
  if c.data.length<1\/c.data.length>16 then 4 else 0
 else if c.kind=2 then
  if ¬ (0<=c.room/\c.room<65536) then 3 else
  if c.zau.length>6 then 5 else zfi 1 c.zau
 else if c.zbw.length>8 then 5 else zfh c.zbw
theorem zqu (n:Int):zao Tryz.prog 202 [i64 n] zae (zbk (small n)) zae:=by
 refine zap mixed Tryz.func202 zz5 ?_;(conv=>whnf);refine zah (fun h=>?_) (fun h=>?_)<;>conv=>whnf
 . have h:=zy43 h
   rw [show decide (n<65536)=small n from by simp only [small];congr 1;simp;omega]
 . have h:=zy55 h
   rw [show small n=false from zy19 (by omega)]
theorem zyf (c:Chunk) (h9:c.zau.length<2 ^ 40) (h8:c.zbw.length<2 ^ 40):zao Tryz.prog 187 [c.hv] zae (i64 (zda c)) zae:=by
 refine zap mixed Tryz.func187 zz5 ?_;(conv=>whnf)
 (repeat' (first | (refine zcp ?_;conv=>whnf) | (refine zaa ?_ ?_;(first | kernel_rfl | decide);conv=>whnf) | (refine zbe ?_ ?_;kernel_rfl;conv=>whnf) | (refine znk.go ?_;conv=>whnf) | (refine zbm ?_;(conv=>whnf);refine ⟨_,zqu _,rfl,?_⟩;conv=>whnf) | (refine zah (fun h=>?_) (fun h=>?_)<;>conv=>whnf)))
 all_goals try simp only [zy54,zy62,zy41,zy20,zy49,zy42,small,zy2] at *
 all_goals first | (simp only [zda];(repeat' split)<;>first | rfl | omega) | skip
 . have hw:zda c=zfi 1 c.zau:=by simp only [zda];(repeat' split)<;>first | rfl | omega
   rw [hw];refine ⟨{x:Nat×Int // x.1<=c.zau.length/\zfi x.2 (c.zau.drop x.1)=zfi 1 c.zau/\x.2<70000/\0<x.2},fun | ⟨(k,last),_⟩=>hs 128 [(3,.clo 202 []),(4,i64 last),(100,yuu c.zau),(101,i64 c.zau.length),(102,i64 k)] [],fun x=>c.zau.length-x.1.1,⟨(0,1),by simp,rfl,by decide,by decide⟩,?_,?_⟩
   . exact zdo [] rfl rfl rfl rfl ⟨⟨rfl,rfl⟩,⟨rfl,rfl⟩,⟨rfl,rfl⟩,⟨rfl,by simp;rfl⟩,⟨rfl,rfl⟩,trivial⟩ trivial
   . rintro ⟨⟨k,last⟩,hk,hi,hlast,hlast0⟩
     dsimp only at hk hi hlast;(conv=>whnf);refine zah (fun h=>?_) (fun h=>?_)
     . have hlt:k<c.zau.length:=by simpa using h
       (conv=>whnf);refine zbz (r:=(c.zau[k]).row) zz0 (by rw [zy40,zy10,zy3 hlt];rfl) ?_;rw [zy26 hlt] at hi;simp only [zfi] at hi;generalize c.zau[k]=s at hi ⊢;(conv=>whnf)
       (repeat' (first | (refine zcp ?_;conv=>whnf) | (refine zaa ?_ ?_;(first | kernel_rfl | decide);conv=>whnf) | (refine zbe ?_ ?_;kernel_rfl;conv=>whnf) | (refine znk.go ?_;conv=>whnf) | (refine zbm ?_;(conv=>whnf);refine ⟨_,zqu _,rfl,?_⟩;conv=>whnf) | (refine zah (fun h=>?_) (fun h=>?_)<;>conv=>whnf)))
       all_goals try simp only [zy54,zy62,zy41,zy20,zy49,zy42,small,zy2] at *
       all_goals first | (rw [zy1 (by omega)] at hi;rw [<- hi]) | skip
       rw [zy0 (by omega)] at hi;have e2:W ((k:Int)+1)=((k+1:Nat):Int):=xbm hlt zz0;have e1:W (s.hi+1)=s.hi+1:=zbh zz0 zz0;exact ⟨⟨(k+1,s.hi+1),hlt,hi,by dsimp only;omega,by dsimp only;omega⟩,zdo [] rfl rfl rfl rfl ⟨⟨rfl,rfl⟩,⟨rfl,congrArg i64 e1.symm⟩,⟨rfl,rfl⟩,⟨rfl,rfl⟩,⟨rfl,congrArg i64 e2.symm⟩,trivial⟩ trivial,by dsimp only;omega⟩
     . have hge:c.zau.length<=k:=by simpa using h
       rw [zy31 hge] at hi;(conv=>whnf);rw [<- hi];rfl
 . have hw:zda c=zfh c.zbw:=by simp only [zda];(repeat' split)<;>first | rfl | omega
   rw [hw];refine ⟨{k:Nat // k<=c.zbw.length/\zfh (c.zbw.drop k)=zfh c.zbw},fun | ⟨k,_⟩=>hs 128 [(3,.clo 202 []),(29,yus c.zbw),(30,i64 c.zbw.length),(31,i64 k)] [],fun x=>c.zbw.length-x.1,⟨0,by simp,rfl⟩,?_,?_⟩
   . exact zdo [] rfl rfl rfl rfl ⟨⟨rfl,rfl⟩,⟨rfl,rfl⟩,⟨rfl,by simp;rfl⟩,⟨rfl,rfl⟩,trivial⟩ trivial
   . rintro ⟨k,hk,hi⟩
     (conv=>whnf);refine zah (fun h=>?_) (fun h=>?_)
     . have hlt:k<c.zbw.length:=by simpa using h
       (conv=>whnf);refine zbz (r:=(c.zbw[k]).row) zz0 (by rw [zy40,zy10,zy3 hlt];rfl) ?_;rw [zy26 hlt] at hi;simp only [zfh] at hi;generalize c.zbw[k]=s at hi ⊢;(conv=>whnf)
       (repeat' (first | (refine zcp ?_;conv=>whnf) | (refine zaa ?_ ?_;(first | kernel_rfl | decide);conv=>whnf) | (refine zbe ?_ ?_;kernel_rfl;conv=>whnf) | (refine znk.go ?_;conv=>whnf) | (refine zbm ?_;(conv=>whnf);refine ⟨_,zqu _,rfl,?_⟩;conv=>whnf) | (refine zah (fun h=>?_) (fun h=>?_)<;>conv=>whnf)))
       all_goals try simp only [zy54,zy62,zy41,zy20,zy49,zy42,small,zy2] at *
       all_goals first | (rw [zy1 (by omega)] at hi;rw [<- hi]) | skip
       rw [zy0 (by omega)] at hi;have e2:W ((k:Int)+1)=((k+1:Nat):Int):=xbm hlt zz0;exact ⟨⟨k+1,hlt,hi⟩,zdo [] rfl rfl rfl rfl ⟨⟨rfl,rfl⟩,⟨rfl,rfl⟩,⟨rfl,rfl⟩,⟨rfl,congrArg i64 e2.symm⟩,trivial⟩ trivial,by dsimp only;omega⟩
     . have hge:c.zbw.length<=k:=by simpa using h
       rw [zy31 hge] at hi;(conv=>whnf);rw [<- hi];rfl
def yao (l:List UInt8):zad:=.live (.row 5 1 (l.map zdu))
theorem yvf (n:Int):zao Tryz.prog 188 [zgk,i64 n] zae (.own 0) (lk .free [(0,yao (zcg n))]):=by
 refine zan mixed Tryz.func188 zz5 [] (fun _=>.inl rfl) ?_;(conv=>whnf);refine zaa zz5 (zw ?_);refine zge (zw ?_);refine zge (zw ?_);refine zaa (c:=2*1<=140737488355328) zz5 (zw ?_);exact zam [(0,some 12)] rfl rfl trivial rfl rfl ⟨⟨rfl,.inl ⟨12,rfl,rfl⟩⟩,trivial⟩
theorem zpc (l:List UInt8) (n:Int) (hb:l.length<2 ^ 40):zao Tryz.prog 188 [.own 1000,i64 n] (lk .free [(1000,yao l)]) (.own 0) (lk .free [(1000,.dead),(0,yao (l++zcg n))]):=by
 refine zan mixed Tryz.func188 zz5 [1000] (fun i=>zbi i) ?_;(conv=>whnf);refine zaa zz5 (zw ?_);refine zge (zw ?_);refine zge (zw ?_);refine zaa (c:=((l.map zdu).length+2)*1<=140737488355328) zz3 (zw ?_);refine zam [(1000,some 1000),(0,some 12)] rfl rfl ⟨rfl,trivial⟩ rfl rfl ⟨rfl,⟨rfl,.inl ⟨12,rfl,?_⟩⟩,trivial⟩;show zad.live (.row _ 1 _)=zad.live (.row _ 1 ((l++zcg n).map zdu));rw [zy36]
 rfl
theorem yaw (b:Bool) (n:Int):zao Tryz.prog 189 [zbk b,hint .u8 n] zae (hint .u8 (if b then n else 0)) zae:=by
 refine zap mixed Tryz.func189 zz5 ?_;cases b<;>(conv=>whnf)<;>rfl
def flags (c:Chunk):Int:=(if c.last then 1 else 0)+(if c.ordered then 2 else 0)
def zcl (l:List Span):List UInt8:=l.flatMap fun s=>zcg s.lo++zcg s.hi
def skipBytes (l:List zga):List UInt8:=l.flatMap fun s=>[by8 s.stream,by8 (if s.ordered then 1 else 0)]++zcg s.mid
def body (c:Chunk):List UInt8 :=
 if c.kind=1 then zcg c.tag++[by8 c.stream,by8 (flags c)]++zcg c.mid++[by8 c.part]++c.data
 else if c.kind=2 then zcg c.tag++zcg c.room++zcl c.zau
 else zcg c.tag++skipBytes c.zbw
def bytes (c:Chunk):List UInt8:=if zda c=0 then by8 c.kind::by8 (body c).length::body c else []
theorem zkn (l:List Span):(zcl l).length=4*l.length:=by
 induction l with
 | nil=>rfl
 | cons x l ih=>simp only [zcl,zy130,zy6,zy5] at ih ⊢;simp [zcg] at ih ⊢;omega
theorem zkm (l:List zga):(skipBytes l).length=4*l.length:=by
 induction l with
 | nil=>rfl
 | cons x l ih=>simp only [skipBytes,zy130,zy6,zy5] at ih ⊢;simp [zcg] at ih ⊢;omega
theorem zyj {c:Chunk} (h:zda c=0) (k:c.kind=1):1<=c.data.length/\c.data.length<=16:=by
 simp only [zda] at h;(repeat' split at h)<;>first | omega | simp_all
theorem zvu {c:Chunk} (h:zda c=0) (k:c.kind=2):c.zau.length<=6:=by
 simp only [zda] at h;(repeat' split at h)<;>first | omega | simp_all
theorem zvt {c:Chunk} (h:zda c=0) (k1:¬ c.kind=1) (k:¬ c.kind=2):c.zbw.length<=8:=by
 simp only [zda] at h;(repeat' split at h)<;>first | omega | simp_all
theorem zyt {c:Chunk} (h:zda c=0):(body c).length<=34:=by
 have h1:=zyj h;have h2:=zvu h;have h3:=zvt h;unfold body;split
 . have:=h1 ‹_›;simp [zcg];omega
 . split
   . have:=h2 ‹_›;simp [zcg,zkn];omega
   . have:=h3 ‹_› ‹_›;simp [zcg,zkm];omega
theorem zyb (c:Chunk) (h9:c.zau.length<2 ^ 40) (h8:c.zbw.length<2 ^ 40):zao Tryz.prog 167 [c.hv] zae (.tup [ywh (bytes c),i64 (zda c)]) zae:=by
 refine zap mixed Tryz.func167 zz5 ?_;(conv=>whnf);refine zbm (zw ?_);refine ⟨_,zyf c h9 h8,rfl,zw ?_⟩;refine zah (fun h=>?_) (fun h=>?_)
 . conv=>whnf
   have h:¬ zda c=0:=by simpa using h
   rw [bytes,zy0 h]
   rfl
 have h:zda c=0:=by simpa using h
 rw [bytes,zy1 h];(conv=>whnf);refine ynw [(0,17)] (zw ?_);refine ⟨_,_,yvf c.tag,⟨⟨⟨rfl,rfl⟩,trivial⟩,rfl,rfl,rfl⟩,zw ?_⟩;refine znk.meet PUnit (fun _=>hs 97 [(1,.ptr 1 0),(5,.own 900)] [(1,.live (.cells 61 c.cells)),(900,yao (body c))]) ?_ ?_
 . have h1:zda c=0:=h
   (conv=>whnf);refine zah (fun k1=>?_) (fun k1=>?_)
   . conv=>whnf
     refine zge (zw ?_);refine zbm (zw ?_);refine ⟨_,yaw _ _,rfl,zw ?_⟩;refine zbm (zw ?_);refine ⟨_,yaw _ _,rfl,zw ?_⟩;have hbits:bits .or .u8 (if c.last then 1 else 0) (if c.ordered then 2 else 0)=((by8 (flags c)).toNat:Int):=by
      unfold flags;cases c.last<;>cases c.ordered<;>kernel_rfl
     have hd:=(zyj h (by simpa using k1)).2;refine zaa (c:=(((zcg c.tag).map zdu).length+2)*1<=140737488355328) (by simp [zcg]) (zw ?_);refine zac [] [(1000,54)] [(0,57)] (zw ?_);refine ⟨_,_,_,_,zpc (zcg c.tag++[by8 c.stream,by8 (flags c)]) c.mid (by simp [zcg]),⟨rfl,rfl,rfl,⟨⟨rfl,_,rfl,.inl ⟨rfl,?_⟩⟩,trivial⟩,⟨⟨rfl,rfl⟩,trivial⟩,rfl,rfl,rfl⟩,?_⟩
     . show zad.live (.row _ 1 ((zcg c.tag).map zdu++[zdu (by8 c.stream),[.v (.int .u8 (bits .or .u8 (if c.last then 1 else 0) (if c.ordered then 2 else 0)))]]))=_
       rw [hbits]
       rfl
     (conv=>whnf);refine zbe ?_ ?_
     . kernel_rfl
     (conv=>whnf);refine zge (zw ?_);refine zaa (c:=(((zcg c.tag++[by8 c.stream,by8 (flags c)]++zcg c.mid).map zdu).length+1)*1<=140737488355328) (by simp [zcg]) (zw ?_);refine zaa (c:=(((zcg c.tag++[by8 c.stream,by8 (flags c)]++zcg c.mid++[by8 c.part]).map zdu).length+(c.data.map zdu).length)*1<=140737488355328) zz72 (zw ?_);refine zbe ?_ ?_
     . kernel_rfl
     (conv=>whnf);refine ⟨⟨⟩,zdo [(1,some 1),(900,some 66)] rfl rfl rfl rfl ⟨⟨rfl,rfl⟩,⟨rfl,rfl⟩,trivial⟩ ⟨⟨rfl,.inl ⟨1,rfl,rfl⟩⟩,⟨rfl,.inl ⟨66,rfl,?_⟩⟩,trivial⟩⟩;show zad.live (.row _ 1 ((zcg c.tag++[by8 c.stream,by8 (flags c)]++zcg c.mid++[by8 c.part]).map zdu++c.data.map zdu))=zad.live (.row _ 1 ((body c).map zdu));have k1:c.kind=1:=by simpa using k1
     rw [body,zy1 k1,zy36 (l₂:=c.data)]
   . conv=>whnf
     refine zah (fun k2=>?_) (fun k2=>?_)
     . conv=>whnf
       refine zac [] [(1000,17)] [(0,72)] (zw ?_);refine ⟨_,_,_,_,zpc (zcg c.tag) c.room (by simp [zcg]),⟨rfl,rfl,rfl,⟨zz1,trivial⟩,⟨⟨rfl,rfl⟩,trivial⟩,rfl,rfl,rfl⟩,?_⟩;(conv=>whnf);have k1:¬ c.kind=1:=by simpa using k1
       have k2:c.kind=2:=by simpa using k2
       have hsp:=zvu h k2;refine ⟨{k:Nat // k<=c.zau.length},fun | ⟨k,_⟩=>hs 97 [(1,.ptr 1 0),(5,.own 900),(74,yuu c.zau),(75,i64 c.zau.length),(76,i64 k)] [(1,.live (.cells 61 c.cells)),(900,yao (zcg c.tag++zcg c.room++zcl (c.zau.take k)))],fun k=>c.zau.length-k.1,⟨0,by omega⟩,?_,?_⟩
       . refine zdo [(1,some 1),(900,some 72)] rfl rfl rfl rfl ⟨⟨rfl,rfl⟩,⟨rfl,rfl⟩,⟨rfl,rfl⟩,⟨rfl,by simp;rfl⟩,⟨rfl,rfl⟩,trivial⟩ ⟨⟨rfl,.inl ⟨1,rfl,rfl⟩⟩,⟨rfl,.inl ⟨72,rfl,?_⟩⟩,trivial⟩
         rfl
       rintro ⟨k,hk⟩;(conv=>whnf);refine zah (fun c1=>?_) (fun c1=>?_)
       . have hlt:k<c.zau.length:=by simpa using c1
         (conv=>whnf);refine zbz (r:=(c.zau[k]).row) zz0 (by rw [zy40,zy10,zy3 hlt];rfl) ?_;have ht:zcl (c.zau.take (k+1))=zcl (c.zau.take k)++(zcg (c.zau[k]).lo++zcg (c.zau[k]).hi):=by
          rw [<- zy122 hlt,zcl,List.flatMap_append];simp [zcl]
         have hlen:(zcl (c.zau.take k)).length<=24:=by
          rw [zkn];simp;omega
         generalize c.zau[k]=s at ht ⊢;(conv=>whnf);refine zac [] [(1000,900)] [(0,83)] (zw ?_);refine ⟨_,_,_,_,zpc (zcg c.tag++zcg c.room++zcl (c.zau.take k)) s.lo zz72,⟨rfl,rfl,rfl,⟨zz1,trivial⟩,⟨⟨rfl,rfl⟩,trivial⟩,rfl,rfl,rfl⟩,?_⟩;(conv=>whnf);refine zac [] [(1000,83)] [(0,86)] (zw ?_);refine ⟨_,_,_,_,zpc (zcg c.tag++zcg c.room++zcl (c.zau.take k)++zcg s.lo) s.hi zz72,⟨rfl,rfl,rfl,⟨zz1,trivial⟩,⟨⟨rfl,rfl⟩,trivial⟩,rfl,rfl,rfl⟩,?_⟩;(conv=>whnf);refine zbe ?_ ?_
         . kernel_rfl
         (conv=>whnf);refine sFm ?_;refine ⟨⟨k+1,hlt⟩,zdo [(1,some 1),(900,some 86)] rfl rfl rfl rfl ⟨⟨rfl,rfl⟩,⟨rfl,rfl⟩,⟨rfl,rfl⟩,⟨rfl,rfl⟩,⟨rfl,by simp;rfl⟩,trivial⟩ ⟨⟨rfl,.inl ⟨1,rfl,rfl⟩⟩,⟨rfl,.inl ⟨86,rfl,?_⟩⟩,trivial⟩,by dsimp only;omega⟩;show yao (zcg c.tag++zcg c.room++zcl (c.zau.take k)++zcg s.lo++zcg s.hi)=yao (zcg c.tag++zcg c.room++zcl (c.zau.take (k+1)));rw [ht];simp only [zy33]
       . conv=>whnf
         have hge:c.zau.length<=k:=by simpa using c1
         refine ⟨⟨⟩,zdo [(1,some 1),(900,some 900)] rfl rfl rfl rfl ⟨⟨rfl,rfl⟩,⟨rfl,rfl⟩,trivial⟩ ⟨⟨rfl,.inl ⟨1,rfl,rfl⟩⟩,⟨rfl,.inl ⟨900,rfl,?_⟩⟩,trivial⟩⟩;show yao (zcg c.tag++zcg c.room++zcl (c.zau.take k))=yao (body c);rw [body,zy0 k1,zy1 k2,zy37 hge]
     . conv=>whnf
       have k1:¬ c.kind=1:=by simpa using k1
       have k2:¬ c.kind=2:=by simpa using k2
       have hsk:=zvt h k1 k2;refine ⟨{k:Nat // k<=c.zbw.length},fun | ⟨k,_⟩=>hs 97 [(1,.ptr 1 0),(5,.own 900),(21,yus c.zbw),(22,i64 c.zbw.length),(23,i64 k)] [(1,.live (.cells 61 c.cells)),(900,yao (zcg c.tag++skipBytes (c.zbw.take k)))],fun k=>c.zbw.length-k.1,⟨0,by omega⟩,?_,?_⟩
       . refine zdo [(1,some 1),(900,some 17)] rfl rfl rfl rfl ⟨⟨rfl,rfl⟩,⟨rfl,rfl⟩,⟨rfl,rfl⟩,⟨rfl,by simp;rfl⟩,⟨rfl,rfl⟩,trivial⟩ ⟨⟨rfl,.inl ⟨1,rfl,rfl⟩⟩,⟨rfl,.inl ⟨17,rfl,?_⟩⟩,trivial⟩
         rfl
       rintro ⟨k,hk⟩;(conv=>whnf);refine zah (fun c1=>?_) (fun c1=>?_)
       . have hlt:k<c.zbw.length:=by simpa using c1
         (conv=>whnf);refine zbz (r:=(c.zbw[k]).row) zz0 (by rw [zy40,zy10,zy3 hlt];rfl) ?_;have ht:skipBytes (c.zbw.take (k+1))=skipBytes (c.zbw.take k)++([by8 (c.zbw[k]).stream,by8 (if (c.zbw[k]).ordered then 1 else 0)]++zcg (c.zbw[k]).mid):=by
          rw [<- zy122 hlt,skipBytes,List.flatMap_append];simp [skipBytes]
         have hlen:(skipBytes (c.zbw.take k)).length<=32:=by
          rw [zkm];simp;omega
         generalize c.zbw[k]=s at ht ⊢;(conv=>whnf);refine zge (zw ?_);refine zbm (zw ?_);refine ⟨_,yaw _ _,rfl,zw ?_⟩;refine zaa (c:=(((zcg c.tag++skipBytes (c.zbw.take k)).map zdu).length+2)*1<=140737488355328) zz72 (zw ?_);refine zac [] [(1000,35)] [(0,38)] (zw ?_);refine ⟨_,_,_,_,zpc (zcg c.tag++skipBytes (c.zbw.take k)++[by8 s.stream,by8 (if s.ordered then 1 else 0)]) s.mid zz72,⟨rfl,rfl,rfl,⟨⟨rfl,_,rfl,.inl ⟨rfl,?_⟩⟩,trivial⟩,⟨⟨rfl,rfl⟩,trivial⟩,rfl,rfl,rfl⟩,?_⟩
         . show zad.live (.row _ 1 ((zcg c.tag++skipBytes (c.zbw.take k)).map zdu++[zdu (by8 s.stream),[.v (.int .u8 (if s.ordered then 1 else 0))]]))=yao _
           simp only [yao,zy36];cases s.ordered<;>rfl
         (conv=>whnf);refine zbe ?_ ?_
         . kernel_rfl
         (conv=>whnf);refine sFm ?_;refine ⟨⟨k+1,hlt⟩,zdo [(1,some 1),(900,some 38)] rfl rfl rfl rfl ⟨⟨rfl,rfl⟩,⟨rfl,rfl⟩,⟨rfl,rfl⟩,⟨rfl,rfl⟩,⟨rfl,by simp;rfl⟩,trivial⟩ ⟨⟨rfl,.inl ⟨1,rfl,rfl⟩⟩,⟨rfl,.inl ⟨38,rfl,?_⟩⟩,trivial⟩,by dsimp only;omega⟩;show yao (zcg c.tag++skipBytes (c.zbw.take k)++[by8 s.stream,by8 (if s.ordered then 1 else 0)]++zcg s.mid)=yao (zcg c.tag++skipBytes (c.zbw.take (k+1)));rw [ht];simp only [zy33]
       . conv=>whnf
         have hge:c.zbw.length<=k:=by simpa using c1
         refine ⟨⟨⟩,zdo [(1,some 1),(900,some 900)] rfl rfl rfl rfl ⟨⟨rfl,rfl⟩,⟨rfl,rfl⟩,trivial⟩ ⟨⟨rfl,.inl ⟨1,rfl,rfl⟩⟩,⟨rfl,.inl ⟨900,rfl,?_⟩⟩,trivial⟩⟩;show yao (zcg c.tag++skipBytes (c.zbw.take k))=yao (body c);rw [body,zy0 k1,zy0 k2,zy37 hge]
 . rintro ⟨⟩
   have hlen:=zyt h;(conv=>whnf);refine zge (zw ?_);refine zge (zw ?_);refine zaa (c:=(2+((body c).map zdu).length)*1<=140737488355328) zz3 (zw ?_);show HV.tup [.p (.sl 1 ([zdu (by8 c.kind),zdu (by8 ((body c).map zdu).length)]++(body c).map zdu)),i64 0]=_;rw [zy2,h]
   rfl
theorem ymu:∀ {l:List Span} {last:Int},zfi last l=0->0<=last->∀ s∈l,(0<=s.lo/\s.lo<65536)/\(0<=s.hi/\s.hi<65536)
 | [],_,_,_,s,hs=>by cases hs
 | x::r,last,h,h0,s,hs=>by
  simp only [zfi] at h;split at h
  . omega
  . rename_i hn
    rcases zy18.1 hs with rfl | hs
    . omega
    . exact ymu h zz0 s hs
theorem yms:∀ {l:List zga},zfh l=0->∀ s∈l,(0<=s.stream/\s.stream<4)/\(0<=s.mid/\s.mid<65536)
 | [],_,s,hs=>by cases hs
 | x::r,h,s,hs=>by
  simp only [zfh] at h;split at h
  . omega
  . rename_i hn
    rcases zy18.1 hs with rfl | hs
    . omega
    . exact yms h s hs
structure xbk (c:Chunk):Prop where
 kind:1<=c.kind/\c.kind<=3
 tag:0<=c.tag/\c.tag<65536
 data:c.kind=1->(0<=c.stream/\c.stream<4)/\(0<=c.mid/\c.mid<65536)/\(0<=c.part/\c.part<=255)/\1<=c.data.length/\c.data.length<=16
 room:c.kind=2->(0<=c.room/\c.room<65536)/\c.zau.length<=6/\zfi 1 c.zau=0
 zbw:¬ c.kind=1->¬ c.kind=2->c.zbw.length<=8/\zfh c.zbw=0
theorem zed {c:Chunk} (h:zda c=0):xbk c:=by
 simp only [zda] at h
 (repeat' split at h)<;>first | omega | (constructor<;>first | omega | (intros;omega) | skip)
end Chk
namespace Chk
def zrb (b:List UInt8) (i:Nat):Int:=zja (b[i]?.getD 0) (b[i+1]?.getD 0)
def no:Chunk:=⟨0,0,0,0,0,false,false,[],[],0,[]⟩
def zdr:List UInt8->List Span
 | a::b::c::d::r=>⟨zja a b,zja c d⟩::zdr r
 | _=>[]
def zch:List UInt8->List zga×Bool
 | s::f::m::n::r=>if f.toNat>1 then ([],false) else (⟨s.toNat,zja m n,f.toNat==1⟩::(zch r).1,(zch r).2)
 | _=>([],true)
def zei (kind:Int) (b:List UInt8):Chunk×Bool :=
 if b.length<2 then ({no with kind:=kind},false) else
 if kind=1 then
  if b.length<7\/(b[3]?.getD 0).toNat>3 then ({no with kind:=kind,tag:=zrb b 0},false)
  else ({no with kind:=kind,tag:=zrb b 0,stream:=(b[2]?.getD 0).toNat,last:=(b[3]?.getD 0).toNat % 2 != 0,ordered:=(b[3]?.getD 0).toNat / 2*2 != 0,mid:=zrb b 4,part:=(b[6]?.getD 0).toNat,data:=b.drop 7},true)
 else if kind=2 then
  if b.length<4\/b.length % 4≠0 then ({no with kind:=kind,tag:=zrb b 0},false)
  else ({no with kind:=kind,tag:=zrb b 0,room:=zrb b 2,zau:=zdr (b.drop 4)},true)
 else if b.length % 4≠2 then ({no with kind:=kind,tag:=zrb b 0},false)
  else ({no with kind:=kind,tag:=zrb b 0,zbw:=(zch (b.drop 2)).1},(zch (b.drop 2)).2)
def xaa:List HV:=[i64 0,i64 0,i64 0,i64 0,i64 0,zbk false,zbk false,zgk,zgk,i64 0,zgk]
theorem zti (b:List UInt8) (j i:Nat):zrb (b.drop j) i=zrb b (j+i):=by
 unfold zrb;rw [zy44,zy44,zy102]
theorem zko:∀ l:List UInt8,(zdr l).length=l.length / 4
 | a::b::c::d::r=>by simp only [zdr,zy5,zko r];omega
 | []=>by simp [zdr]
 | [_]=>by simp [zdr]
 | [_,_]=>by simp [zdr]
 | [_,_,_]=>by simp [zdr]
theorem xie {b:List UInt8} {j:Nat} (h:j+4<=b.length):b.drop j=b[j]?.getD 0::b[j+1]?.getD 0::b[j+2]?.getD 0::b[j+3]?.getD 0::b.drop (j+4):=by
 rw [zy26 (by omega),zy26 (by omega),zy26 (by omega),zy26 (by omega)];rw [zy3 (by omega),zy3 (by omega),zy3 (by omega),zy3 (by omega)]
 rfl
theorem yut {b:List UInt8} {j:Nat} (h:j+4<=b.length):zch (b.drop j) =
 if (b[j+1]?.getD 0).toNat>1 then ([],false) else (⟨(b[j]?.getD 0).toNat,zrb b (j+2),(b[j+1]?.getD 0).toNat==1⟩::(zch (b.drop (j+4))).1,(zch (b.drop (j+4))).2):=by
 rw [xie h,zch];rfl
theorem zrv:∀ {k:Nat} {l:List UInt8},4*k+4<=l.length->(zdr l).take (k+1)=(zdr l).take k++[⟨zrb l (4*k),zrb l (4*k+2)⟩]
 | k,[],h=>by simp at h
 | k,[_],h=>by simp at h
 | k,[_,_],h=>by simp at h
 | k,[_,_,_],h=>by simp at h
 | 0,a::b::c::d::r,h=>by simp [zdr,zrb]
 | k+1,a::b::c::d::r,h=>by
  have:=zrv (k:=k) (l:=r) (by simp at h;omega);simp only [zdr,zy110,this,zy38];have e:∀ i,zrb (a::b::c::d::r) (4*(k+1)+i)=zrb r (4*k+i):=by
   intro i;have:=zti (a::b::c::d::r) 4 (4*k+i);rw [show 4*(k+1)+i=4+(4*k+i) by omega,<- this]
   rfl
  rw [e 2];have:=e 0;simp only [zy96] at this;rw [this]
theorem xfg {b:List UInt8} {i:Nat} (h:i<b.length):(b.map zdu)[i]?=some (zdu (b[i]?.getD 0)):=by
 rw [zy10,zy3 h];rfl
theorem zrx (b:UInt8):W (b.toNat:Int)=b.toNat:=by have:=b.toNat_lt;exact zbh zz0 zz0
theorem zmm (b:List UInt8) (i:Nat) (h:i+1<b.length) (hb:b.length<2 ^ 40):zao Tryz.prog 203 [ywh b,i64 i] zae (i64 (zrb b i)) zae:=by
 refine zap mixed Tryz.func203 zz5 ?_;have e1:W ((i:Int)+1)=((i+1:Nat):Int):=by rw [zbh (by omega) (by omega)];push_cast;rfl
 (conv=>whnf);refine zbz (r:=zdu (b[i]?.getD 0)) zz0 (by rw [zy40];exact xfg (by omega)) ?_;(conv=>whnf);refine zat (zrx _) (zw ?_);refine zaa zz5 (zw ?_);refine zat (zbh (z:=((b[i]?.getD 0).toNat:Int)*256) (by have:=(b[i]?.getD 0).toNat_lt;omega) (by have:=(b[i]?.getD 0).toNat_lt;omega)) (zw ?_);refine zat e1 (zw ?_);refine zoj (i+1) (by push_cast;rfl) h ?_;(conv=>whnf);refine zat (zrx _) (zw ?_);refine zbe ?_ ?_
 . kernel_rfl
 (conv=>whnf);show i64 (bits .or .i64 (((b[i]?.getD 0).toNat:Int)*256) ((b[i+1]?.getD 0).toNat:Int))=i64 (zrb b i);rw [yyf _ _ (b[i]?.getD 0).toNat_lt (b[i+1]?.getD 0).toNat_lt]
 rfl
theorem yuw (kind:Int) (b:List UInt8) (hb:b.length<2 ^ 40):zao Tryz.prog 194 [i64 kind,ywh b] zae (.tup [(zei kind b).1.hv,zbk (zei kind b).2]) zae:=by
 refine zap mixed Tryz.func194 zz5 ?_;have hl:(b.map zdu).length=b.length:=by simp
 (conv=>whnf);refine zah (fun c1=>?_) (fun c1=>?_)
 . have c1:(b.length:Int)<2:=by simpa using c1
   rw [zei,zy1 (by omega)];(conv=>whnf)
   rfl
 have c1:¬ (b.length:Int)<2:=by simpa using c1
 rw [zei,zy0 (by omega)];(conv=>whnf);refine zbm (zw ?_);refine ⟨_,zmm b 0 zz0 hb,rfl,zw ?_⟩;refine znk.go (zw ?_);refine zah (fun k1=>?_) (fun k1=>?_)
 . have k1:kind=1:=by simpa using k1
   rw [zy1 k1];(conv=>whnf);refine zah (fun c2=>?_) (fun c2=>?_)
   . have c2:(b.length:Int)<7:=by simpa using c2
     rw [zy1 (.inl (by omega))];(conv=>whnf)
     rfl
   have c2:¬ (b.length:Int)<7:=by simpa using c2
   (conv=>whnf);refine zbz (r:=zdu (b[3]?.getD 0)) zz0 (xfg zz0) ?_;(conv=>whnf);refine zah (fun c3=>?_) (fun c3=>?_)
   . have c3:((b[3]?.getD 0).toNat:Int)>3:=zy43 c3
     rw [zy1 (.inr (by omega))];(conv=>whnf)
     rfl
   have c3:¬ ((b[3]?.getD 0).toNat:Int)>3:=zy55 c3;rw [zy0 (by omega)];(conv=>whnf);refine zbz (r:=zdu (b[2]?.getD 0)) zz0 (xfg zz0) ?_;(conv=>whnf);refine zat (zrx _) (zw ?_);refine zbz (r:=zdu (b[3]?.getD 0)) zz0 (xfg zz0) ?_;(conv=>whnf);refine zbz (r:=zdu (b[3]?.getD 0)) zz0 (xfg zz0) ?_;(conv=>whnf);refine zbe ?_ ?_
   . kernel_rfl
   (conv=>whnf);refine zbm (zw ?_);refine ⟨_,zmm b 4 zz0 hb,rfl,zw ?_⟩;refine zbz (r:=zdu (b[6]?.getD 0)) zz0 (xfg zz0) ?_;(conv=>whnf);refine zat (zrx _) (zw ?_);refine zaa zz0 (zw ?_);refine zom (l:=b) zz3 ?_;(conv=>whnf);refine zaa (c:=((b.drop 7).map zdu).length*1<=140737488355328) zz3 (zw ?_);refine zbe ?_ ?_
   . kernel_rfl
   (conv=>whnf);have e1:=xbq (b[3]?.getD 0);have e2:=xbs (b[3]?.getD 0) zz0;have key:∀ (n m:Int) (k:Nat),n=k->(n != 0)=(k != 0):=by
    intro n m k h;subst h;cases k<;>rfl
   rw [key _ 0 _ e1,key _ 0 _ e2]
   rfl
 have k1:¬ kind=1:=by simpa using k1
 rw [zy0 k1];(conv=>whnf);refine zah (fun k2=>?_) (fun k2=>?_)
 . have k2:kind=2:=by simpa using k2
   rw [zy1 k2];(conv=>whnf);refine zah (fun c2=>?_) (fun c2=>?_)
   . have c2:(b.length:Int)<4:=by simpa using c2
     rw [zy1 (.inl (by omega))];(conv=>whnf)
     rfl
   have c2:¬ (b.length:Int)<4:=by simpa using c2
   (conv=>whnf);refine zaa zz5 (zw ?_);refine zah (fun c3=>?_) (fun c3=>?_)
   . have c3:¬ ((b.length:Int).tmod 4=0):=by simpa using c3
     rw [zy1 (.inr (by rw [zy118 (by omega)] at c3;omega))];(conv=>whnf)
     rfl
   have c3:(b.length:Int).tmod 4=0:=by simpa using c3
   have c4:b.length % 4=0:=by rw [zy118 (by omega)] at c3;omega
   rw [zy0 (by omega)];(conv=>whnf);refine zbm (zw ?_);refine ⟨_,zmm b 2 zz0 hb,rfl,zw ?_⟩;refine ⟨{k:Nat // 4+4*k<=b.length},fun | ⟨k,_⟩=>hs 134 [(1,ywh b),(4,.ptr 4 0),(6,.ptr 6 0),(7,i64 (4+4*k:Nat))] [(4,.live (.cells 61 xaa)),(6,.live (.cells 61 [i64 kind,i64 (zrb b 0),i64 0,i64 0,i64 0,zbk false,zbk false,zgk,.own 900,i64 (zrb b 2),zgk])),(900,.live (.row 199 2 (((zdr (b.drop 4)).take k).map Span.row)))],fun x=>b.length-4*x.1,⟨0,by omega⟩,?_,?_⟩
   . exact zdo [(4,some 4),(6,some 6),(900,none)] rfl rfl rfl rfl ⟨⟨rfl,rfl⟩,⟨rfl,rfl⟩,⟨rfl,rfl⟩,⟨rfl,rfl⟩,trivial⟩ ⟨⟨rfl,.inl ⟨4,rfl,rfl⟩⟩,⟨rfl,.inl ⟨6,rfl,rfl⟩⟩,⟨rfl,.inr ⟨rfl,rfl⟩⟩,trivial⟩
   rintro ⟨k,hk⟩;(conv=>whnf);refine zah (fun c=>?_) (fun c=>?_)
   . have hlt:4+4*k<b.length:=by
      have:=zy43 c;rw [zy2] at this;omega
     (conv=>whnf);refine zbm (zw ?_);refine ⟨_,zmm b (4+4*k) zz0 hb,rfl,zw ?_⟩;refine zat (z:=((4+4*k:Nat):Int)+2) (zbh zz0 zz0) (zw ?_);refine zbm (zw ?_);refine ⟨_,zmm b (4+4*k+2) zz0 hb,rfl,zw ?_⟩;refine zaa (c:=(((((zdr (b.drop 4)).take k).map Span.row).length)+1)*16<=140737488355328) zz3 (zw ?_);refine zbe ?_ ?_
     . kernel_rfl
     (conv=>whnf);refine zat (z:=((4+4*k:Nat):Int)+4) (zbh zz0 zz0) (zw ?_);have ht:=zrv (l:=b.drop 4) (k:=k) zz3;refine ⟨⟨k+1,by omega⟩,zdo [(4,some 4),(6,some 6),(900,some 131)] rfl rfl rfl rfl ⟨⟨rfl,rfl⟩,⟨rfl,rfl⟩,⟨rfl,rfl⟩,⟨rfl,rfl⟩,trivial⟩ ⟨⟨rfl,.inl ⟨4,rfl,rfl⟩⟩,⟨rfl,.inl ⟨6,rfl,rfl⟩⟩,⟨rfl,.inl ⟨131,rfl,?_⟩⟩,trivial⟩,by dsimp only;omega⟩;show zad.live (.row _ 2 (((zdr (b.drop 4)).take k).map Span.row++[Span.row ⟨zrb b (4+4*k),zrb b (4+4*k+2)⟩]))=zad.live (.row _ 2 (((zdr (b.drop 4)).take (k+1)).map Span.row));rw [ht,zy36,zti,zti]
     rfl
   . have hge:¬ 4+4*k<b.length:=by
      have:=zy55 c;rw [zy2] at this;omega
     (conv=>whnf);rw [zy37 (by rw [zko];simp;omega)]
     rfl
 have k2:¬ kind=2:=by simpa using k2
 rw [zy0 k2];(conv=>whnf);refine zaa zz5 (zw ?_);refine zah (fun c3=>?_) (fun c3=>?_)
 . have c3:¬ ((b.length:Int).tmod 4=2):=by simpa using c3
   rw [zy1 (by rw [zy118 (by omega)] at c3;omega)];(conv=>whnf)
   rfl
 have c3:(b.length:Int).tmod 4=2:=by simpa using c3
 have c4:b.length % 4=2:=by rw [zy118 (by omega)] at c3;omega
 rw [zy0 (by omega)];(conv=>whnf);refine ⟨{x:Nat×List zga // 2+4*x.1<=b.length/\x.2.length=x.1/\zch (b.drop 2)=(x.2++(zch (b.drop (2+4*x.1))).1,(zch (b.drop (2+4*x.1))).2)},fun | ⟨(k,acc),_⟩=>hs 134 [(1,ywh b),(4,.ptr 4 0),(6,.ptr 6 0),(8,i64 (2+4*k:Nat))] [(4,.live (.cells 61 xaa)),(6,.live (.cells 61 [i64 kind,i64 (zrb b 0),i64 0,i64 0,i64 0,zbk false,zbk false,zgk,zgk,i64 0,.own 900])),(900,.live (.row 180 3 (acc.map zga.row)))],fun x=>b.length-4*x.1.1,⟨(0,[]),by dsimp only;omega,rfl,by simp⟩,?_,?_⟩
 . exact zdo [(4,some 4),(6,some 6),(900,none)] rfl rfl rfl rfl ⟨⟨rfl,rfl⟩,⟨rfl,rfl⟩,⟨rfl,rfl⟩,⟨rfl,rfl⟩,trivial⟩ ⟨⟨rfl,.inl ⟨4,rfl,rfl⟩⟩,⟨rfl,.inl ⟨6,rfl,rfl⟩⟩,⟨rfl,.inr ⟨rfl,rfl⟩⟩,trivial⟩
 rintro ⟨⟨k,acc⟩,hk,hlen,zeb⟩;dsimp only at hk hlen zeb;(conv=>whnf);refine zah (fun c=>?_) (fun c=>?_)
 . have hlt:2+4*k<b.length:=by
    have:=zy43 c;rw [zy2] at this;omega
   rw [yut (j:=2+4*k) (by omega)] at zeb;(conv=>whnf);refine zat (z:=((2+4*k:Nat):Int)+1) (zbh zz0 zz0) (zw ?_);refine zoj (2+4*k+1) (by push_cast;rfl) zz0 ?_;(conv=>whnf);refine zah (fun c5=>?_) (fun c5=>?_)
   . have c5:=zy43 c5
     rw [zy1 (by omega)] at zeb;(conv=>whnf);rw [zeb,zy8]
     rfl
   have c5:=zy55 c5;rw [zy0 (by omega)] at zeb;(conv=>whnf);refine zoj (2+4*k) rfl zz0 ?_;(conv=>whnf);refine zat (zrx _) (zw ?_);refine zat (z:=((2+4*k:Nat):Int)+1) (zbh zz0 zz0) (zw ?_);refine zoj (2+4*k+1) (by push_cast;rfl) zz0 ?_;(conv=>whnf);refine zat (z:=((2+4*k:Nat):Int)+2) (zbh zz0 zz0) (zw ?_);refine zbm (zw ?_);refine ⟨_,zmm b (2+4*k+2) zz0 hb,rfl,zw ?_⟩;refine zaa (c:=((acc.map zga.row).length+1)*24<=140737488355328) zz3 (zw ?_);refine zbe ?_ ?_
   . kernel_rfl
   (conv=>whnf);refine zat (z:=((2+4*k:Nat):Int)+4) (zbh zz0 zz0) (zw ?_);refine ⟨⟨(k+1,acc++[⟨(b[2+4*k]?.getD 0).toNat,zrb b (2+4*k+2),(b[2+4*k+1]?.getD 0).toNat==1⟩]),by dsimp only;omega,by simp [hlen],by
    dsimp only;rw [zeb,show 2+4*k+4=2+4*(k+1) by omega];simp⟩,zdo [(4,some 4),(6,some 6),(900,some 56)] rfl rfl rfl rfl ⟨⟨rfl,rfl⟩,⟨rfl,rfl⟩,⟨rfl,rfl⟩,⟨rfl,rfl⟩,trivial⟩ ⟨⟨rfl,.inl ⟨4,rfl,rfl⟩⟩,⟨rfl,.inl ⟨6,rfl,rfl⟩⟩,⟨rfl,.inl ⟨56,rfl,?_⟩⟩,trivial⟩,by dsimp only;omega⟩
   have hbeq:∀ n:Nat,((n:Int)==1)=(n==1):=by
    intro n;rcases Nat.decEq n 1 with h | h
    . rw [show ((n:Int)==1)=false from by simpa using (by omega:¬ (n:Int)=1),show (n==1)=false from by simpa using h]
    . subst h;rfl
   show zad.live (.row _ 3 (acc.map zga.row++[[pi (b[2+4*k]?.getD 0).toNat,pi (zrb b (2+4*k+2)),pb (((b[2+4*k+1]?.getD 0).toNat:Int)==1)]]))=_;rw [hbeq,zy36]
   rfl
 . have hge:¬ 2+4*k<b.length:=by
    have:=zy55 c;rw [zy2] at this;omega
   rw [zy31 (show b.length<=2+4*k by omega)] at zeb;simp only [zch,zy8] at zeb;(conv=>whnf);rw [zeb]
   rfl
end Chk
namespace Chk
theorem zlu:∀ l:List UInt8,(zch l).1.length<=l.length
 | a::b::c::d::r=>by
  have:=zlu r;simp only [zch];split<;>simp<;>omega
 | []=>by simp [zch]
 | [_]=>by simp [zch]
 | [_,_]=>by simp [zch]
 | [_,_,_]=>by simp [zch]
theorem zwl (kind:Int) (b:List UInt8):(zei kind b).1.zau.length<=b.length/\(zei kind b).1.zbw.length<=b.length:=by
 have h1:=zlu (b.drop 2);have h2:=zko (b.drop 4);have h3:(b.drop 2).length<=b.length:=by simp
 have h4:(b.drop 4).length<=b.length:=by simp
 unfold zei
 (repeat' split)<;>constructor<;>first | (simp [no];done) | (dsimp only [no];omega)
def parse (b:List UInt8):Chunk×Int×Int :=
 if b.length<2\/b.length<2+(b[1]?.getD 0).toNat then (no,0,8) else
 if (b[0]?.getD 0).toNat<1\/(b[0]?.getD 0).toNat>3 then (no,0,1) else
 if (zei (b[0]?.getD 0).toNat ((b.drop 2).take (b[1]?.getD 0).toNat)).2=false then (no,0,2) else
 if zda (zei (b[0]?.getD 0).toNat ((b.drop 2).take (b[1]?.getD 0).toNat)).1≠0 then (no,0,zda (zei (b[0]?.getD 0).toNat ((b.drop 2).take (b[1]?.getD 0).toNat)).1) else
 ((zei (b[0]?.getD 0).toNat ((b.drop 2).take (b[1]?.getD 0).toNat)).1,2+(b[1]?.getD 0).toNat,0)
theorem zjd {rows:List (List PV)} {o n o' n':Nat} {K:List (List PV)->Prop} (ho:o=o') (hn:n=n') (h:zrk rows o' n' K):zrk rows o n K:=by subst ho;subst hn;exact h
theorem ypi (b:List UInt8) (hb:b.length<2 ^ 39):zao Tryz.prog 178 [ywh b] zae (.tup [(parse b).1.hv,i64 (parse b).2.1,i64 (parse b).2.2]) zae:=by
 refine zap mixed Tryz.func178 zz5 ?_;have hl:(b.map zdu).length=b.length:=by simp
 have hb1:=(b[1]?.getD 0).toNat_lt;(conv=>whnf);refine zah (fun c1=>?_) (fun c1=>?_)
 . have c1:(b.length:Int)<2:=by simpa using c1
   rw [parse,zy1 (.inl (by omega))];(conv=>whnf)
   rfl
 have c1:¬ (b.length:Int)<2:=by simpa using c1
 (conv=>whnf);refine zat (z:=((b.map zdu).length:Int)-2) (zbh zz0 zz0) (zw ?_);refine zoj 1 rfl zz0 (zw ?_);refine zat (zrx _) (zw ?_);refine zah (fun c2=>?_) (fun c2=>?_)
 . have c2:((b.map zdu).length:Int)-2<(b[1]?.getD 0).toNat:=zy43 c2
   rw [parse,zy1 (.inr (by omega))];(conv=>whnf)
   rfl
 have c2:¬ ((b.map zdu).length:Int)-2<(b[1]?.getD 0).toNat:=zy55 c2;rw [parse,zy0 (by omega)];(conv=>whnf);refine zoj 0 rfl zz0 (zw ?_);refine zah (fun c3=>?_) (fun c3=>?_)
 . have c3:((b[0]?.getD 0).toNat:Int)<1:=zy43 c3
   rw [zy1 (.inl (by omega))];(conv=>whnf)
   rfl
 have c3:¬ ((b[0]?.getD 0).toNat:Int)<1:=zy55 c3;(conv=>whnf);refine zoj 0 rfl zz0 (zw ?_);refine zah (fun c4=>?_) (fun c4=>?_)
 . have c4:((b[0]?.getD 0).toNat:Int)>3:=zy43 c4
   rw [zy1 (.inr (by omega))];(conv=>whnf)
   rfl
 have c4:¬ ((b[0]?.getD 0).toNat:Int)>3:=zy55 c4;rw [zy0 (by omega)];(conv=>whnf);refine zoj 1 rfl zz0 (zw ?_);refine zat (zrx _) (zw ?_);refine zat (z:=2+((b[1]?.getD 0).toNat:Int)) (zbh zz0 zz0) ?_;conv=>whnf
 refine zoj 0 rfl zz0 (zw ?_);refine zat (zrx _) (zw ?_);refine zaa zz0 (zw ?_);refine zjd (o':=2) (n':=(b[1]?.getD 0).toNat) rfl zz0 ?_;refine zlj (l:=b) zz0 ?_;have hlen:((b.drop 2).take (b[1]?.getD 0).toNat).length<=256:=by simp;omega
 obtain ⟨l1,l2⟩:=zwl (b[0]?.getD 0).toNat ((b.drop 2).take (b[1]?.getD 0).toNat);generalize hs:(b.drop 2).take (b[1]?.getD 0).toNat=s at hlen l1 l2 ⊢;(conv=>whnf);refine zel (zw ?_);refine ⟨_,yuw (b[0]?.getD 0).toNat s zz0,rfl,?_⟩;generalize zei (b[0]?.getD 0).toNat s=p at l1 l2 ⊢;obtain ⟨c,ok⟩:=p;dsimp only at l1 l2;(conv=>whnf);refine zbe ?_ ?_
 . kernel_rfl
 (conv=>whnf);cases ok with
 | false =>
  conv=>whnf
  rfl
 | true =>
  rw [zy0 (by simp)];(conv=>whnf);refine zbm (zw ?_);refine ⟨_,zyf c zz0 zz0,rfl,zw ?_⟩;refine zah (fun c5=>?_) (fun c5=>?_)
  . have c5:¬ zda c=0:=by simpa using c5
    rw [zy1 c5];(conv=>whnf)
    rfl
  . have c5:zda c=0:=by simpa using c5
    rw [zy0 (fun h=>h c5)];(conv=>whnf)
    rfl
end Chk
namespace Chk
theorem xgy:∀ l:List UInt8,l=[]\/(∃ a,l=[a])\/(∃ a b,l=[a,b])\/(∃ a b c,l=[a,b,c])\/(∃ a b c d,l=[a,b,c,d])\/(∃ a b c d e,l=[a,b,c,d,e])\/(∃ a b c d e f,l=[a,b,c,d,e,f])\/∃ a b c d e f g r,l=a::b::c::d::e::f::g::r
 | []=>by simp
 | [a]=>by simp
 | [a,b]=>by simp
 | [a,b,c]=>by simp
 | [a,b,c,d]=>by simp
 | [a,b,c,d,e]=>by simp
 | [a,b,c,d,e,f]=>by simp
 | a::b::c::d::e::f::g::r=>by simp
end Chk
namespace Chk
theorem yts (b:List UInt8):(parse b).1.zau.length<=b.length/\(parse b).1.zbw.length<=b.length:=by
 have h:=zwl (b[0]?.getD 0).toNat ((b.drop 2).take (b[1]?.getD 0).toNat);have h3:((b.drop 2).take (b[1]?.getD 0).toNat).length<=b.length:=by simp;omega
 unfold parse
 (repeat' split)<;>constructor<;>first | (simp [no];done) | (dsimp only;omega)
end Chk
namespace Chk
theorem xbz {n:Nat} (h:n<256):(by8 n).toNat=n:=by
 have:=zgx (n:Int);omega
theorem zyv {z:Int} (h0:0<=z) (h1:z<256):((by8 z).toNat:Int)=z:=by
 have:=zgx z;omega
def clean (c:Chunk):Chunk :=
 if c.kind=1 then {no with kind:=c.kind,tag:=c.tag,stream:=c.stream,mid:=c.mid,part:=c.part,last:=c.last,ordered:=c.ordered,data:=c.data}
 else if c.kind=2 then {no with kind:=c.kind,tag:=c.tag,room:=c.room,zau:=c.zau}
 else {no with kind:=c.kind,tag:=c.tag,zbw:=c.zbw}
theorem ygt (c:Chunk):zda (clean c)=zda c:=by
 by_cases k1:c.kind=1
 . unfold zda clean;simp only [k1,if_true]
 . by_cases k2:c.kind=2
   . unfold zda clean;simp only [k1,k2,if_true,if_false]
     simp
   . unfold zda clean;simp only [k1,k2,if_false]
theorem zov:∀ {l:List Span},(∀ s∈l,(0<=s.lo/\s.lo<65536)/\(0<=s.hi/\s.hi<65536))->zdr (zcl l)=l
 | [],_=>rfl
 | s::r,h=>by
  have h1:=h s zz4;have h2:=zov (l:=r) fun x hx=>h x zz38
  show zdr (by8 (s.lo / 256)::by8 s.lo::by8 (s.hi / 256)::by8 s.hi::zcl r)=s::r;rw [zdr,h2,zlb h1.1.1 h1.1.2,zlb h1.2.1 h1.2.2]
theorem znf:∀ {l:List zga},(∀ s∈l,(0<=s.stream/\s.stream<4)/\(0<=s.mid/\s.mid<65536))->zch (skipBytes l)=(l,true)
 | [],_=>rfl
 | s::r,h=>by
  have h1:=h s zz4;have h2:=znf (l:=r) fun x hx=>h x zz38
  show zch (by8 s.stream::by8 (if s.ordered then 1 else 0)::by8 (s.mid / 256)::by8 s.mid::skipBytes r)=(s::r,true);rw [zch,h2,zlb h1.2.1 h1.2.2,zyv h1.1.1 (by omega)];obtain ⟨st,md,od⟩:=s;cases od<;>rfl
theorem ygr {c:Chunk} (h:zda c=0):zei c.kind (body c)=(clean c,true):=by
 have hf:=zed h;by_cases k1:c.kind=1
 . obtain ⟨d1,d2,d3,d4,d5⟩:=hf.data k1
   have hb:body c=by8 (c.tag / 256)::by8 c.tag::by8 c.stream::by8 (flags c)::by8 (c.mid / 256)::by8 c.mid::by8 c.part::c.data:=by
    rw [body,zy1 k1];rfl
   have hfl:(by8 (flags c)).toNat<=3/\((by8 (flags c)).toNat % 2 != 0)=c.last/\((by8 (flags c)).toNat / 2*2 != 0)=c.ordered:=by
    unfold flags;cases c.last<;>cases c.ordered<;>decide
   rw [hb];unfold zei;rw [zy0 (by simp),zy1 k1,zy0 (by simp;omega)];show (({no with kind:=c.kind,tag:=zja (by8 (c.tag / 256)) (by8 c.tag),stream:=(by8 c.stream).toNat,last:=(by8 (flags c)).toNat % 2 != 0,ordered:=(by8 (flags c)).toNat / 2*2 != 0,mid:=zja (by8 (c.mid / 256)) (by8 c.mid),part:=(by8 c.part).toNat,data:=c.data}:Chunk),true)=_;rw [zlb hf.tag.1 hf.tag.2,zlb d2.1 d2.2,zyv d1.1 (by omega),zyv d3.1 (by omega),hfl.2.1,hfl.2.2,clean,zy1 k1]
 . by_cases k2:c.kind=2
   . obtain ⟨d1,d2,d3⟩:=hf.room k2
     have hb:body c=by8 (c.tag / 256)::by8 c.tag::by8 (c.room / 256)::by8 c.room::zcl c.zau:=by
      rw [body,zy0 k1,zy1 k2];rfl
     rw [hb];unfold zei;rw [zy0 (by simp),zy0 k1,zy1 k2,zy0 (by simp [zkn];omega)];show (({no with kind:=c.kind,tag:=zja (by8 (c.tag / 256)) (by8 c.tag),room:=zja (by8 (c.room / 256)) (by8 c.room),zau:=zdr (zcl c.zau)}:Chunk),true)=_;rw [zlb hf.tag.1 hf.tag.2,zlb d1.1 d1.2,zov (ymu d3 (by decide)),clean,zy0 k1,zy1 k2]
   . obtain ⟨d1,d2⟩:=hf.zbw k1 k2
     have hb:body c=by8 (c.tag / 256)::by8 c.tag::skipBytes c.zbw:=by
      rw [body,zy0 k1,zy0 k2];rfl
     rw [hb];unfold zei;rw [zy0 (by simp),zy0 k1,zy0 k2,zy0 (by simp [zkm];omega)];show (({no with kind:=c.kind,tag:=zja (by8 (c.tag / 256)) (by8 c.tag),zbw:=(zch (skipBytes c.zbw)).1}:Chunk),(zch (skipBytes c.zbw)).2)=_;rw [zlb hf.tag.1 hf.tag.2,znf (yms d2),clean,zy0 k1,zy0 k2]
theorem yin {c:Chunk} (h:zda c=0) (b:List UInt8):parse (bytes c++b)=(clean c,((bytes c).length:Int),(0:Int)):=by
 have hf:=zed h;have hl:=zyt h;have hk:((by8 c.kind).toNat:Int)=c.kind:=zyv (by have:=hf.kind;omega) (by have:=hf.kind;omega);have hn:(by8 ((body c).length:Int)).toNat=(body c).length:=xbz zz0;have hb:bytes c++b=by8 c.kind::by8 (body c).length::(body c++b):=by rw [bytes,zy1 h];rfl
 have hs:((by8 c.kind::by8 (body c).length::(body c++b)).drop 2).take (by8 ((body c).length:Int)).toNat=body c:=by
  rw [hn];simp
 rw [hb];have e0:(by8 c.kind::by8 (body c).length::(body c++b))[0]?.getD 0=by8 c.kind:=rfl;have e1:(by8 c.kind::by8 (body c).length::(body c++b))[1]?.getD 0=by8 (body c).length:=rfl;unfold parse;rw [e0,e1,hs,zy0 (by simp;omega),zy0 (by have:=hf.kind;omega),hk,ygr h,zy0 (by simp)];dsimp only;rw [zy0 (by rw [ygt,h];simp),hn,bytes,zy1 h];simp;omega
theorem zru:∀ {l:List UInt8},l.length % 4=0->zcl (zdr l)=l
 | a::b::c::d::r,h=>by
  have:=zru (l:=r) (by simp at h;omega);rw [zdr];show zcg (zja a b)++zcg (zja c d)++zcl (zdr r)=_;rw [zle,zle,this];rfl
 | [],_=>rfl
 | [_],h=>by simp at h
 | [_,_],h=>by simp at h
 | [_,_,_],h=>by simp at h
theorem zrt:∀ {l:List UInt8},l.length % 4=0->(zch l).2=true->skipBytes (zch l).1=l
 | a::b::c::d::r,h,h2=>by
  rw [zch] at h2 ⊢;split at h2
  . cases h2
  . rename_i hb
    have:=zrt (l:=r) (by simp at h;omega) h2;rw [zy0 hb];show [by8 (a.toNat:Int),by8 (if (b.toNat==1)=true then 1 else 0)]++zcg (zja c d)++skipBytes (zch r).1=_;rw [zle,this,zwm];have hb2:by8 (if (b.toNat==1)=true then 1 else 0)=b:=by
     apply UInt8.toNat_inj.1;rcases zy82 b.toNat 1 with h1 | h1
     . have:b.toNat=0:=by omega
       rw [this];rfl
     . have:b.toNat=1:=by omega
       rw [this];rfl
    rw [hb2];rfl
 | [],_,_=>rfl
 | [_],h,_=>by simp at h
 | [_,_],h,_=>by simp at h
 | [_,_,_],h,_=>by simp at h
theorem xbw {kind:Int} {s:List UInt8} (h:(zei kind s).2=true):body (zei kind s).1=s/\(zei kind s).1.kind=kind:=by
 unfold zei at h ⊢;split at h
 . cases h
 rename_i h2;rw [zy0 h2];by_cases k1:kind=1
 . rw [zy1 k1] at h ⊢
   split at h
   . cases h
   rename_i h3;rw [zy0 h3];refine ⟨?_,rfl⟩;rcases xgy s with rfl | ⟨x0,rfl⟩ | ⟨x0,x1,rfl⟩ | ⟨x0,x1,x2,rfl⟩ | ⟨x0,x1,x2,x3,rfl⟩ | ⟨x0,x1,x2,x3,x4,rfl⟩ | ⟨x0,x1,x2,x3,x4,x5,rfl⟩ | ⟨x0,x1,x2,x3,x4,x5,x6,r,rfl⟩
   case inr.inr.inr.inr.inr.inr.inr =>
    have hx:x3.toNat<=3:=by simp at h3;omega
    rw [body,zy1 k1];show zcg (zja x0 x1)++[by8 (x2.toNat:Int),by8 ((if (x3.toNat % 2 != 0)=true then 1 else 0)+(if (x3.toNat / 2*2 != 0)=true then 2 else 0))]++zcg (zja x4 x5)++[by8 (x6.toNat:Int)]++r=_;have hfl:by8 ((if (x3.toNat % 2 != 0)=true then 1 else 0)+(if (x3.toNat / 2*2 != 0)=true then 2 else 0))=x3:=by
     apply UInt8.toNat_inj.1;generalize x3.toNat=n at hx
     match n,hx with
     | 0,_=>decide
     | 1,_=>decide
     | 2,_=>decide
     | 3,_=>decide
    rw [zle,zle,zwm,zwm,hfl];rfl
   all_goals (exfalso;simp at h3)
 . rw [zy0 k1] at h ⊢
   match s,h2 with
   | a::b::r,_ =>
    by_cases k2:kind=2
    . rw [zy1 k2] at h ⊢
      split at h
      . cases h
      rename_i h3;rw [zy0 h3];refine ⟨?_,rfl⟩
      match r,h3 with
      | c::d::r,h3 =>
       rw [body,zy0 k1,zy1 k2];show zcg (zja a b)++zcg (zja c d)++zcl (zdr r)=_;rw [zle,zle,zru (by simp at h3;omega)];rfl
      | [],h3=>simp at h3
      | [_],h3=>simp at h3
    . rw [zy0 k2] at h ⊢
      split at h
      . cases h
      rename_i h3;rw [zy0 h3];refine ⟨?_,rfl⟩;rw [body,zy0 k1,zy0 k2];show zcg (zja a b)++skipBytes (zch r).1=_;rw [zle,zrt (l:=r) (by simp at h3;omega) h];rfl
   | [],h2=>simp at h2
   | [_],h2=>simp at h2
theorem yos {b:List UInt8} (h:(parse b).2.2=0):zda (parse b).1=0/\0<=(parse b).2.1/\(parse b).2.1<=b.length/\bytes (parse b).1=b.take (parse b).2.1.toNat:=by
 by_cases h1:b.length<2\/b.length<2+(b[1]?.getD 0).toNat
 . rw [parse,zy1 h1] at h;cases h
 by_cases h2:(b[0]?.getD 0).toNat<1\/(b[0]?.getD 0).toNat>3
 . rw [parse,zy0 h1,zy1 h2] at h;cases h
 generalize hs:(b.drop 2).take (b[1]?.getD 0).toNat=s;cases h3:(zei (b[0]?.getD 0).toNat s).2 with
 | false=>rw [parse,zy0 h1,zy0 h2,hs,zy1 h3] at h;cases h
 | true =>
  by_cases h4:zda (zei (b[0]?.getD 0).toNat s).1=0
  . have hp:parse b=((zei (b[0]?.getD 0).toNat s).1,2+((b[1]?.getD 0).toNat:Int),(0:Int)):=by
     rw [parse,zy0 h1,zy0 h2,hs,zy0 (by rw [h3];simp),zy0 (fun h=>h h4)]
    obtain ⟨g1,g2⟩:=xbw h3;have hlen:s.length=(b[1]?.getD 0).toNat:=by rw [<- hs];simp;omega
    rw [hp];refine ⟨h4,by dsimp only;omega,by dsimp only;omega,?_⟩;dsimp only;rw [bytes,zy1 h4,g1,g2,hlen,zwm,zwm];have e2:∀ m:Nat,(2+(m:Int)).toNat=m+1+1:=by intro m;omega
    rw [e2]
    match b,h1,hs with
    | x::y::r,h1,hs =>
     rw [<- hs];rfl
    | [],h1,_=>simp at h1
    | [_],h1,_=>simp at h1
  . rw [parse,zy0 h1,zy0 h2,hs,zy0 (by rw [h3];simp),zy1 h4] at h
    exact absurd h h4
end Chk
namespace Pck
open Chk
abbrev chunks (l:List Chunk):HV:=.p (.sl 11 (l.map Chunk.row))
def zgb (l:List Chunk):Prop:=l.length<2 ^ 38/\∀ c∈l,c.zau.length<2 ^ 38/\c.zbw.length<2 ^ 38
def zcb:List Chunk->Int
 | []=>0
 | c::r=>if zda c≠0 then zda c else zcb r
def zbf (l:List Chunk):List UInt8:=l.flatMap Chk.bytes
def zde (l:List Chunk) (most:Int):List UInt8×Int :=
 if l.length=0 then ([],5) else if zcb l≠0 then ([],zcb l) else if ((zbf l).length:Int)>most then ([],4) else (zbf l,0)
theorem ztm (c:Chunk):(Chk.bytes c).length<=36:=by
 unfold Chk.bytes;split
 . rename_i h;have:=zyt h;simp;omega
 . simp
theorem zil:∀ l:List Chunk,(zbf l).length<=36*l.length
 | []=>by simp [zbf]
 | c::r=>by
  have h1:=ztm c;have h2:=zil r;simp only [zbf,zy130,zy6,zy5] at h2 ⊢;omega
theorem zgc {l:List Chunk} {k:Nat} (h:k<l.length):zbf (l.take (k+1))=zbf (l.take k)++Chk.bytes l[k]:=by
 rw [<- zy122 h,zbf,List.flatMap_append];simp [zbf]
theorem zfv (l:List Chunk) (most:Int) (hl:zgb l):zao Tryz.prog 141 [chunks l,i64 most] zae (.tup [ywh (zde l most).1,i64 (zde l most).2]) zae:=by
 obtain ⟨hl1,hl2⟩:=hl;refine zap mixed Tryz.func141 zz5 ?_;(conv=>whnf);refine zah (fun c1=>?_) (fun c1=>?_)
 . have c1:l.length=0:=by simpa using c1
   rw [zde,zy1 c1];(conv=>whnf)
   rfl
 have c1:¬ l.length=0:=by simpa using c1
 rw [zde,zy0 c1];(conv=>whnf);refine ⟨{k:Nat // k<=l.length/\zcb l=zcb (l.drop k)},fun | ⟨k,_⟩=>hs 37 [(1,i64 most),(6,.own 900),(14,chunks l),(15,i64 l.length),(16,i64 k)] [(900,yao (zbf (l.take k)))],fun x=>l.length-x.1,⟨0,by omega,rfl⟩,?_,?_⟩
 . exact zdo [(900,none)] rfl rfl rfl rfl ⟨⟨rfl,rfl⟩,⟨rfl,rfl⟩,⟨rfl,rfl⟩,⟨rfl,by simp;rfl⟩,⟨rfl,rfl⟩,trivial⟩ ⟨⟨rfl,.inr ⟨rfl,rfl⟩⟩,trivial⟩
 rintro ⟨k,hk,hi⟩;(conv=>whnf);refine zah (fun c2=>?_) (fun c2=>?_)
 . have hlt:k<l.length:=by simpa using c2
   have hab:=zil (l.take k);have hab2:(l.take k).length<=k:=by simp;omega
   obtain ⟨s1,s2⟩:=hl2 l[k] (zy83 hlt);have hsucc:=zgc hlt;have hbl:=ztm l[k];rw [zy26 hlt] at hi;simp only [zcb] at hi;(conv=>whnf);refine zdk (f:=Chunk.row) (l:=l) k rfl hlt ?_;generalize l[k]=c at s1 s2 hi hsucc hbl ⊢;(conv=>whnf);refine zel (zw ?_);refine ⟨_,zyb c zz0 zz0,rfl,zw ?_⟩;refine zah (fun c3=>?_) (fun c3=>?_)
   . have c3:zda c≠0:=by simpa using c3
     rw [zy1 c3] at hi;(conv=>whnf);rw [hi,zy1 c3]
     rfl
   have c3:zda c=0:=by simpa using c3
   rw [zy0 (fun h=>h c3)] at hi;(conv=>whnf);refine zaa (c:=(((zbf (l.take k)).map zdu).length+((Chk.bytes c).map zdu).length)*1<=140737488355328) zz3 (zw ?_);refine sFm ?_;refine ⟨⟨k+1,hlt,hi⟩,zdo [(900,some 30)] rfl rfl rfl rfl ⟨⟨rfl,rfl⟩,⟨rfl,rfl⟩,⟨rfl,rfl⟩,⟨rfl,rfl⟩,⟨rfl,by simp;rfl⟩,trivial⟩ ⟨⟨rfl,.inl ⟨30,rfl,?_⟩⟩,trivial⟩,by dsimp only;omega⟩;show zad.live (.row _ 1 ((zbf (l.take k)).map zdu++(Chk.bytes c).map zdu))=yao (zbf (l.take (k+1)));rw [hsucc,yao,zy36]
 . have hge:l.length<=k:=by simpa using c2
   rw [zy31 hge] at hi;have hi:zcb l=0:=hi;have ht:l.take k=l:=zy37 hge;have hab:=zil l;(conv=>whnf);refine zah (fun c3=>?_) (fun c3=>?_)
   . have c3:((zbf l).length:Int)>most:=by rw [ht] at c3;simpa using c3
     (conv=>whnf);rw [zy0 (fun h=>h hi),zy1 c3]
     rfl
   . have c3:¬ ((zbf l).length:Int)>most:=by rw [ht] at c3;simpa using c3
     (conv=>whnf);rw [zy0 (fun h=>h hi),zy0 c3,ht]
def zft (most:Int) (n:Nat) (k:Nat):List Chunk->Int
 | []=>k
 | c::r=>if zda c≠0\/((Chk.bytes c).length:Int)>most-n then k else zft most (n+(Chk.bytes c).length) (k+1) r
theorem zml (l:List Chunk) (most:Int) (hl:zgb l) (hm:inI most):zao Tryz.prog 140 [chunks l,i64 most] zae (i64 (zft most 0 0 l)) zae:=by
 obtain ⟨hl1,hl2⟩:=hl;refine zap mixed Tryz.func140 zz5 ?_;(conv=>whnf);refine ⟨{x:Nat×Nat // x.1<=l.length/\x.2=(zbf (l.take x.1)).length/\((x.2:Int)<=most\/x.2=0)/\zft most x.2 x.1 (l.drop x.1)=zft most 0 0 l},fun | ⟨(k,n),_⟩=>hs 40 [(0,chunks l),(1,i64 most),(5,i64 n),(10,chunks l),(11,i64 l.length),(12,i64 k)] [],fun x=>l.length-x.1.1,⟨(0,0),by simp,by simp [zbf],.inr rfl,rfl⟩,?_,?_⟩
 . exact zdo [] rfl rfl rfl rfl ⟨⟨rfl,rfl⟩,⟨rfl,rfl⟩,⟨rfl,rfl⟩,⟨rfl,rfl⟩,⟨rfl,by simp;rfl⟩,⟨rfl,rfl⟩,trivial⟩ trivial
 rintro ⟨⟨k,n⟩,hk,hn,hmost,hi⟩;dsimp only at hk hn hmost hi;(conv=>whnf);refine zah (fun c1=>?_) (fun c1=>?_)
 . have hlt:k<l.length:=by simpa using c1
   have hab:=zil (l.take k);have hab2:(l.take k).length<=k:=by simp;omega
   obtain ⟨s1,s2⟩:=hl2 l[k] (zy83 hlt);rw [zy26 hlt] at hi;simp only [zft] at hi;(conv=>whnf);refine zdk (f:=Chunk.row) (l:=l) k rfl hlt (zw ?_);have hbl:=ztm l[k];have hsucc:=zgc hlt;generalize l[k]=c at s1 s2 hi hbl hsucc ⊢;refine zel (zw ?_);refine ⟨_,zyb c zz0 zz0,rfl,zw ?_⟩;refine zah (fun c2=>?_) (fun c2=>?_)
   . have c2:zda c≠0:=by simpa using c2
     rw [zy1 (.inl c2)] at hi;(conv=>whnf);rw [<- hi]
   have c2:zda c=0:=by simpa using c2
   obtain ⟨hm1,hm2⟩:=hm;(conv=>whnf);refine zat (z:=most-n) (zbh zz0 zz0) (zw ?_);refine zah (fun c3=>?_) (fun c3=>?_)
   . have c3:((Chk.bytes c).length:Int)>most-n:=by simpa using c3
     rw [zy1 (.inr c3)] at hi;(conv=>whnf);rw [<- hi]
   have c3:¬ ((Chk.bytes c).length:Int)>most-n:=by simpa using c3
   rw [zy0 (by rintro (h | h);exact h c2;exact c3 h)] at hi;(conv=>whnf);refine zat (z:=(n:Int)+((Chk.bytes c).map zdu).length) (zbh zz3 zz3) (zw ?_);refine sFm ?_;exact ⟨⟨(k+1,n+(Chk.bytes c).length),hlt,by dsimp only;rw [hsucc];simp;omega,by dsimp only;left;push_cast;omega,hi⟩,zdo [] rfl rfl rfl rfl ⟨⟨rfl,rfl⟩,⟨rfl,rfl⟩,⟨rfl,by simp;rfl⟩,⟨rfl,rfl⟩,⟨rfl,rfl⟩,⟨rfl,by simp;rfl⟩,trivial⟩ trivial,by dsimp only;omega⟩
 . have hge:l.length<=k:=by simpa using c1
   rw [zy31 hge] at hi;(conv=>whnf);have hkl:k=l.length:=by omega
   simp only [zft] at hi;rw [<- hi,hkl];simp
end Pck
namespace Pck
open Chk
theorem zlf {l:List Chunk} {k:Nat} (h:k<l.length) (h0:zcb (l.take k)=0):zcb (l.take (k+1))=zda l[k]:=by
 rw [<- zy122 h];generalize l.take k=a at h0 ⊢;generalize l[k]=c
 induction a with
 | nil=>simp only [zy92,zcb];split<;>omega
 | cons x r ih =>
  simp only [zcb] at h0;split at h0
  . contradiction
  . rename_i hx
    simp only [zy38,zcb];rw [zy0 hx];exact ih h0
structure Fits (l:List Chunk) (most:Int) (k:Nat):Prop where
 le:k<=l.length
 zed:zcb (l.take k)=0
 much:((zbf (l.take k)).length:Int)<=most\/k=0
theorem Fits.zero (l:List Chunk) (most:Int):Fits l most 0:=⟨by omega,by simp [zcb],.inr rfl⟩
theorem ywy {l:List Chunk} {most:Int} {k:Nat} (h:k<l.length) (hf:Fits l most k) :
 ((zde (l.take (k+1)) most).2≠0↔(zda l[k]≠0\/((Chk.bytes l[k]).length:Int)>most-(zbf (l.take k)).length)):=by
 have h1:=zlf h hf.zed;have h2:(zbf (l.take (k+1))).length=(zbf (l.take k)).length+(Chk.bytes l[k]).length:=by rw [zgc h];simp
 have h3:¬ (l.take (k+1)).length=0:=by rw [zy52];omega
 rw [zde,zy0 h3,h1];by_cases hw:zda l[k]≠0
 . rw [zy1 hw]
   exact ⟨fun h=>.inl hw,fun _=>hw⟩
 . rw [zy0 hw]
   split
   . exact ⟨fun _=>.inr zz0,fun _=>by decide⟩
   . exact ⟨fun h=>absurd rfl h,fun h=>by rcases h with h | h;exact absurd h hw;omega⟩
theorem Fits.next {l:List Chunk} {most:Int} {k:Nat} (h:k<l.length) (hf:Fits l most k) (hn:¬ (zda l[k]≠0\/((Chk.bytes l[k]).length:Int)>most-(zbf (l.take k)).length)):Fits l most (k+1):=by
 have h1:=zlf h hf.zed;have h2:(zbf (l.take (k+1))).length=(zbf (l.take k)).length+(Chk.bytes l[k]).length:=by rw [zgc h];simp
 refine ⟨h,?_,.inl ?_⟩
 . rw [h1];rcases Int.decEq (zda l[k]) 0 with h | h;exact absurd (.inl h) hn;exact h
 . have:¬ ((Chk.bytes l[k]).length:Int)>most-(zbf (l.take k)).length:=fun h=>hn (.inr h)
   omega
theorem yko {l:List Chunk} {most:Int}:∀ {j k:Nat},l.length-k=j->Fits l most k->∃ r,zft most (zbf (l.take k)).length k (l.drop k)=(r:Nat)/\Fits l most r/\(r<l.length->(zde (l.take (r+1)) most).2≠0)
 | 0,k,hj,hf=>by
  have hk:k=l.length:=by have:=hf.le;omega
  refine ⟨k,?_,hf,fun h=>absurd h zz0⟩;rw [zy31 (by omega)];rfl
 | j+1,k,hj,hf=>by
  have hlt:k<l.length:=by omega
  have hs:=ywy hlt hf;rw [zy26 hlt];simp only [zft];by_cases hc:zda l[k]≠0\/((Chk.bytes l[k]).length:Int)>most-(zbf (l.take k)).length
  . rw [zy1 hc]
    exact ⟨k,rfl,hf,fun _=>hs.2 hc⟩
  . rw [zy0 hc]
    obtain ⟨r,h1,h2,h3⟩:=yko (j:=j) (k:=k+1) zz0 (hf.next hlt hc);rw [zgc hlt,zy6] at h1;exact ⟨r,h1,h2,h3⟩
theorem xcu (l:List Chunk) (most:Int):∃ r,zft most 0 0 l=(r:Nat)/\Fits l most r/\(r<l.length->(zde (l.take (r+1)) most).2≠0):=by
 have:=yko (l:=l) (most:=most) rfl (Fits.zero l most)
 simpa [zbf] using this
theorem zgb.take {l:List Chunk} (h:zgb l) (k:Nat):zgb (l.take k):=⟨by have:=h.1;simp;omega,fun c hc=>h.2 c (zy65 hc)⟩
def zfy:Nat->List UInt8->List Chunk×Int
 | 0,_=>([],0)
 | f+1,b=>if b.length=0 then ([],0) else if (parse b).2.2≠0 then ([],(parse b).2.2) else
  if (zfy f (b.drop (parse b).2.1.toNat)).2≠0 then ([],(zfy f (b.drop (parse b).2.1.toNat)).2) else ((parse b).1::(zfy f (b.drop (parse b).2.1.toNat)).1,0)
def zgq (b:List UInt8):List Chunk×Int:=if b.length=0 then ([],5) else zfy b.length b
theorem xee {b:List UInt8} (h:(parse b).2.2=0):2<=(parse b).2.1:=by
 unfold parse at h ⊢
 (repeat' split at h)<;>first | contradiction | skip
 all_goals (repeat' split)<;>first | contradiction | (dsimp only;omega)
theorem yor:∀ (f:Nat) (b:List UInt8),(zfy f b).2≠0->(zfy f b).1=[]
 | 0,b,h=>rfl
 | f+1,b,h=>by
  rw [zfy] at h ⊢;split
  . rfl
  split
  . rfl
  split
  . rfl
  . rename_i h1 h2 h3
    rw [zy0 h1,zy0 h2,zy0 h3] at h;exact absurd rfl h
theorem yix (b:List UInt8) (hb:b.length<2 ^ 37):zao Tryz.prog 151 [ywh b] zae (.tup [chunks (zgq b).1,i64 (zgq b).2]) zae:=by
 refine zap mixed Tryz.func151 zz5 ?_;(conv=>whnf);refine zah (fun c1=>?_) (fun c1=>?_)
 . have c1:b.length=0:=by simpa using c1
   rw [zgq,zy1 c1];(conv=>whnf)
   rfl
 have c1:¬ b.length=0:=by simpa using c1
 rw [zgq,zy0 c1];generalize hR:zfy b.length b=R;(conv=>whnf);refine ⟨{x:Nat×List UInt8×List Chunk // x.2.1.length<=x.1/\x.2.2.length+x.2.1.length<=b.length/\R.2=(zfy x.1 x.2.1).2/\((zfy x.1 x.2.1).2=0->R.1=x.2.2++(zfy x.1 x.2.1).1)/\(R.2≠0->R.1=[])},fun | ⟨(f,b',acc),_⟩=>hs 31 [(0,ywh b'),(4,.own 900)] [(900,.live (.row 61 11 (acc.map Chunk.row)))],fun x=>x.1.2.1.length,⟨(b.length,b,[]),by dsimp only;omega,by simp,by dsimp only;rw [hR],fun _=>by dsimp only;rw [hR];rfl,by rw [<- hR];exact yor _ _⟩,?_,?_⟩
 . exact zdo [(900,none)] rfl rfl rfl rfl ⟨⟨rfl,rfl⟩,⟨rfl,rfl⟩,trivial⟩ ⟨⟨rfl,.inr ⟨rfl,rfl⟩⟩,trivial⟩
 rintro ⟨⟨f,b',acc⟩,hf,hlen,h1,h2,h3⟩;dsimp only at hf hlen h1 h2 h3;(conv=>whnf);refine zah (fun c2=>?_) (fun c2=>?_)
 . have c2:0<b'.length:=by have:=zy43 c2;rw [zy2] at this;omega
   obtain ⟨g,rfl⟩:∃ g,f=g+1:=⟨f-1,by omega⟩
   rw [zfy,zy0 (by omega)] at h1 h2;have hn:=xee (b:=b');have hg:=yos (b:=b');obtain ⟨q1,q2⟩:=yts b';(conv=>whnf);refine zel (zw ?_);refine ⟨_,ypi b' zz0,rfl,?_⟩;generalize parse b'=p at h1 h2 hn hg q1 q2 ⊢;obtain ⟨c,n,e⟩:=p;dsimp only at h1 h2 hn hg q1 q2;(conv=>whnf);refine zah (fun c3=>?_) (fun c3=>?_)
   . have c3:e≠0:=by simpa using c3
     rw [zy1 c3] at h1;dsimp only at h1;have h4:=h3 (by rw [h1];exact c3);(conv=>whnf);rw [h4,h1]
     try rfl
   have c3:e=0:=by simpa using c3
   rw [zy0 (fun h=>h c3)] at h1 h2;have hn:=hn c3;obtain ⟨g1,g2,g3,g4⟩:=hg c3;(conv=>whnf);refine zaa (c:=((acc.map Chunk.row).length+1)*128<=140737488355328) zz3 (zw ?_);refine zaa ⟨g2,by rw [zy2];exact g3,by omega⟩ (zw ?_);refine zom (l:=b') (by rw [zy2];show n.toNat+((b'.length:Int)-n).toNat=b'.length;omega) ?_;(conv=>whnf)
   try (refine zbe ?_ ?_;· kernel_rfl)
   try conv=>whnf
   refine ⟨⟨(g,b'.drop n.toNat,acc++[c]),by dsimp only;rw [zy34];omega,by dsimp only;rw [zy34,zy6];simp;omega,?_,?_,h3⟩,zdo [(900,some 26)] rfl rfl rfl rfl ⟨⟨rfl,rfl⟩,⟨rfl,rfl⟩,trivial⟩ ⟨⟨rfl,.inl ⟨26,rfl,?_⟩⟩,trivial⟩,by dsimp only;rw [zy34];omega⟩
   . dsimp only
     rw [h1];split
     . rfl
     . rename_i h;exact (Decidable.of_not_not h).symm
   . dsimp only
     intro h;rw [zy0 (fun h'=>h' h)] at h2;have:=h2 rfl;rw [this];simp
   . show zad.live (.row _ 11 (acc.map Chunk.row++[c.row]))=zad.live (.row _ 11 ((acc++[c]).map Chunk.row))
     rw [zy36]
     rfl
 . have c2:b'.length=0:=by have:=zy55 c2;rw [zy2] at this;omega
   have h4:zfy f b'=([],0):=by
    cases f with
    | zero=>rfl
    | succ f=>rw [zfy,zy1 c2]
   rw [h4] at h1 h2;have h5:=h2 rfl;rw [zy8] at h5;have h1:R.2=0:=h1;(conv=>whnf);rw [h5,h1]
   try rfl
end Pck
namespace Snd
open Ser
def yok (c:Config):zab:=⟨c,0,[],Sch.new c.streams,[],List.replicate c.paths.toNat (Paths.new c.part),c.first-1,c.first,400,List.replicate (2*c.streams).toNat 0,[],false,c.first-1⟩
def noS:zab:=⟨⟨0,0,0,0,0,0,0⟩,0,[],⟨0,0,[]⟩,[],[],0,0,0,[],[],false,0⟩
def zey (s:zab) (m:Message):Int :=
 if m.stream<0\/m.stream>=s.config.streams\/m.life<0\/m.life>1000\/m.tries<0\/m.tries>1000 then 3 else
 if m.data.length<1\/m.data.length>60 then 4 else if (s.queue.length:Int)>=s.config.waiting then 7 else 0
def zii (s:zab) (m:Message):zab:={s with queue:=s.queue++[⟨s.fates.length,-1,s.clock,0,0,m⟩],fates:=s.fates++[1]}
def flP (out:List zbr) (i:Nat) (p:Path):Path:={p with zak:=(Sco.fl i out:Nat)}
def zek (s:zab):zab:={s with paths:=s.paths.mapIdx fun i p=>flP s.out i p}
def zry (next:Int) (m:zaf):zbr:=⟨next,m.id,0,0,0,0,0,0,0,⟨1,tag next,m.message.stream,tag m.mid,m.parts,true,m.message.ordered,[],[],0,[]⟩⟩
def zfc (id:Int) (s:zab) (m:zaf):zab:=if m.id=id/\m.parts>0 then {s with out:=s.out++[zry s.next m],next:=W (s.next+1)} else s
def zfn (s:zab) (id:Int):zab :=
 let t:=s.queue.foldl (zfc id) {s with fates:=s.fates.set id.toNat 3}
 zek {t with queue:=s.queue.filter fun m=>decide (m.id≠id),sched:=if s.sched.hand=id then {s.sched with hand:=-1} else s.sched,out:=t.out.map (Sco.zie id),forward:=true}
def old (clock came life:Int):Bool:=decide (life>0)&&decide (W (clock-came)>=life)
def zkx (s:zab) (m:zaf):zab:=if old s.clock m.came m.message.life then zfn s m.id else s
def xci (s:zab) (x:zbr):Bool:=decide (s.fates[x.id.toNat]?.getD 0=1)&&(decide (x.state≠2)&&(old s.clock x.came x.life||(decide (x.state=3)&&(decide (x.tries>0)&&decide (x.times>x.tries)))))
def zid (s:zab) (x:zbr):zab:=if xci s x then zfn s x.id else s
def expire (s:zab):zab:=(s.queue.foldl zkx s).out.foldl zid (s.queue.foldl zkx s)
structure zgj where
 s:zab
 out:List (List Chunk)
def zvx (x:zbr) (path:Int):zbr:={x with state:=1,path:=path,missed:=0,times:=W (x.times+1)}
def setAt {α:Type} (l:List α) (k:Nat) (f:α->α):List α:=match l[k]? with
 | none=>l
 | some x=>l.set k (f x)
def fly (p:zgj) (i path:Nat):zgj:=match p.s.out[i]? with
 | none=>p
 | some x=>⟨{p.s with out:=p.s.out.set i (zvx x path),paths:=setAt p.s.paths path fun a=>{a with zak:=W (a.zak+x.chunk.data.length)}},setAt p.out path (·++[x.chunk])⟩
def opened (s:zab) (path:Nat):Bool:=match s.paths[path]? with
 | none=>false
 | some a=>decide (a.zak<a.window)
def zdn (path:Nat) (p:zgj) (i:Nat):zgj:=match p.s.out[i]? with
 | none=>p
 | some x=>if x.state=3/\opened p.s path=true then fly p i path else p
def choose (s:zab):Nat:=(Paths.zdh 0 s.paths).toNat
def again (p:zgj):zgj:=(List.range p.s.out.length).foldl (zdn (choose p.s)) p
def zak (s:zab):Int:=s.paths.foldl (fun n a=>W (n+a.zak)) 0
def zif (s:zab) (m:zaf):Nat:=(m.message.stream+if m.message.ordered then 0 else s.config.streams).toNat
def zcd (s:zab) (m:zaf):Int:=if m.mid<0 then s.mids[zif s m]?.getD 0 else m.mid
def zdp (s:zab) (m:zaf):List Int:=if m.mid<0 then setAt s.mids (zif s m) (fun n=>W (n+1)) else s.mids
def cut (s:zab) (m:zaf) (n:Int):Chunk:=⟨1,tag s.next,m.message.stream,tag (zcd s m),m.parts,decide (m.sent+n=m.message.data.length),m.message.ordered,(m.message.data.drop m.sent.toNat).take n.toNat,[],0,[]⟩
def many (s:zab) (m:zaf):Int:=if (m.message.data.length:Int)-m.sent<s.config.part then (m.message.data.length:Int)-m.sent else s.config.part
def yih (p:zgj) (k:Nat) (m:zaf) (n:Int):zgj :=
 let yqf:=decide (m.sent+n=m.message.data.length)
 let m':zaf:={m with mid:=zcd p.s m}
 let s:={p.s with mids:=zdp p.s m,sched:=Sch.had p.s.sched m' n yqf,out:=p.s.out++[⟨p.s.next,m.id,0,0,0,0,m.came,m.message.life,m.message.tries,cut p.s m n⟩],next:=W (p.s.next+1),queue:=if yqf then p.s.queue.eraseIdx k else p.s.queue.set k {m' with sent:=m.sent+n,parts:=W (m.parts+1)}}
 fly ⟨s,p.out⟩ p.s.out.length (choose p.s)
def zdi (s:zab):Int:=Sch.next s.config.turns s.sched s.queue
def next (p:zgj):Option zgj :=
 if zdi p.s<0\/opened p.s (choose p.s)=false\/(p.s.out.length:Int)>=60 then none else match p.s.queue[(zdi p.s).toNat]? with
  | none=>none
  | some m=>if zak p.s>0/\W (zak p.s+many p.s m)>p.s.room then none else some (yih p (zdi p.s).toNat m (many p.s m))
def zgl:Nat->zgj->zgj
 | 0,p=>p
 | n+1,p=>match next p with
  | none=>p
  | some q=>zgl n q
def zcj (s:zab) (a:Path):Path:=if a.zcj=0 then {a with zcj:=W (s.clock+a.wait)} else a
def forward (p:zgj):zgj:=if p.s.forward=false\/(Sco.zdy p.s.out p.s.cum).1=p.s.cum then p else
 ⟨{p.s with forward:=false,paths:=setAt p.s.paths (choose p.s) (zcj p.s)},setAt p.out (choose p.s) (·++[⟨3,tag (Sco.zdy p.s.out p.s.cum).1,0,0,0,false,false,[],[],0,(Sco.zdy p.s.out p.s.cum).2⟩])⟩
def zce (most:Int) (l:List Chunk):Int:=if 1>Pck.zft most 0 0 l then 1 else Pck.zft most 0 0 l
def zmt (most:Int) (path:Int) (l:List Chunk):List zbb:=if (Pck.zde (l.take (zce most l).toNat) most).2=0 then [⟨path,false,(Pck.zde (l.take (zce most l).toNat) most).1⟩] else []
def zgm (most:Int) (path:Int):Nat->List Chunk->List zbb
 | 0,_=>[]
 | n+1,l=>if l=[] then [] else zmt most path l++zgm most path n (l.drop (zce most l).toNat)
def zbx (most:Int):Nat->List (List Chunk)->List zbb
 | _,[]=>[]
 | k,l::r=>zgm most k l.length l++zbx most (k+1) r
def zfz (s:zab) (n:Int) (a:Path):Path:=if a.zak>0/\a.zcj=0 then {a with zcj:=W (s.clock+a.wait)} else if a.zak=0/\n=s.cum then {a with zcj:=0} else a
def ygk (s:zab):zab:={s with paths:=s.paths.map (zfz s (Sco.zdy s.out s.cum).1)}
def zhy (s:zab):zgj:=zgl 61 (again (forward ⟨expire s,List.replicate s.paths.length []⟩))
def zfl (s:zab):zab×List zbb:=(ygk (zhy s).s,zbx s.config.packet 0 (zhy s).out)
def settled (s:zab) (id:Nat) (f:Int):Int:=if f=1/\(s.queue.any fun m=>decide (m.id=(id:Int)))=false/\(s.out.any fun x=>decide (x.id=(id:Int))&&decide (x.state≠2))=false then 2 else f
def settle (s:zab):zab:={s with fates:=s.fates.mapIdx fun id f=>settled s id f}
def heard (s:zab) (c:Chunk):zab :=
 let k:=Sco.zfq s.out s.cum c s.paths.length
 let moved:=decide (k.2.1>s.cum)
 let t:=zek {s with out:=k.1,cum:=k.2.1,room:=c.room,paths:=s.paths.mapIdx fun i p=>if k.2.2.1[i]?.getD 0>0 then Paths.zvz p (k.2.2.1[i]?.getD 0) s.config.part moved else p}
 let u:=match k.2.2.2.getLast? with
  | none=>t
  | some z=>if z>t.recover then {t with paths:=setAt t.paths (choose t) fun p=>Paths.ycw p s.config.part,recover:=W (t.next-1)} else t
 settle (if moved=true/\(Sco.zdy u.out u.cum).1>u.cum then {u with forward:=true} else u)
def zkc (s:zab) (c:Chunk):zab:=if c.kind≠2 then s else if zdf s.cum c.tag<s.cum\/zdf s.cum c.tag>s.cum+s.out.length then s else heard s c
def zem (part:Int) (s:zab) (i:Nat):zab:=match s.paths[i]? with
 | none=>s
 | some p=>if p.zcj=0\/s.clock<p.zcj then s else
  let t:={s with out:=s.out.map (Sco.late i),paths:=s.paths.set i (Paths.late p part)}
  if (Sco.zdy t.out t.cum).1>t.cum then {t with forward:=true} else t
def tick (s:zab):zab:=(List.range s.paths.length).foldl (zem s.config.part) {s with clock:=W (s.clock+1)}
def calm (s:zab):Bool:=decide (s.queue.length=0)&&decide (s.out.length=0)
end Snd
namespace Snd
open Ser
abbrev xhq (l:List zaf):zad:=.live (.row 117 10 (l.map zaf.row))
abbrev xii (l:List zbr):zad:=.live (.row 134 20 (l.map zbr.row))
abbrev xit (l:List Path):zad:=.live (.row 86 7 (l.map Path.row))
abbrev yov (l:List Int):zad:=.live (.row 3 1 (l.map fun n=>[pi n]))
abbrev xfk (l:List Chunk):zad:=.live (.row 61 11 (l.map Chunk.row))
abbrev xhm (l:List Path):HV:=.p (.sl 7 (l.map Path.row))
def xbg (s:zab) (q h o p m f:HV):List HV:=[i64 s.config.streams,i64 s.config.part,i64 s.config.packet,i64 s.config.paths,i64 s.config.turns,i64 s.config.waiting,i64 s.config.first,i64 s.clock,q,i64 s.sched.last,i64 s.sched.hand,h,o,p,i64 s.cum,i64 s.next,i64 s.room,m,f,zbk s.forward,i64 s.recover]
def ywb (s:zab) (q h o p m f x:HV):List HV:=[i64 s.config.streams,i64 s.config.part,i64 s.config.packet,i64 s.config.paths,i64 s.config.turns,i64 s.config.waiting,i64 s.config.first,i64 s.clock,q,i64 s.sched.last,i64 s.sched.hand,h,o,p,i64 s.cum,i64 s.next,i64 s.room,m,f,zbk s.forward,i64 s.recover,x]
abbrev xep (s:zab) (a b c d e f:Nat):HV:=.agg (xbg s (.own a) (.own b) (.own c) (.own d) (.own e) (.own f))
abbrev zya (s:zab) (a b c d e f:Nat) (L:List (Nat×zad)):List (Nat×zad):=(a,xhq s.queue)::(b,yov s.sched.had)::(c,xii s.out)::(d,xit s.paths)::(e,yov s.mids)::(f,yov s.fates)::L
abbrev xiu (s:zab) (q h o p m f:Nat) (L:List (Nat×zad)):List (Nat×zad):=(1000,.live (.cells 32 (xbg s (.own q) (.own h) (.own o) (.own p) (.own m) (.own f))))::zya s q h o p m f L
abbrev xfm (s:zab) (a:List Chunk) (q h o p m f x c:Nat) (L:List (Nat×zad)):List (Nat×zad):=(1000,.live (.cells 139 (ywb s (.own q) (.own h) (.own o) (.own p) (.own m) (.own f) (.own x))))::zya s q h o p m f ((x,.live (.cells 145 [.own c]))::(c,xfk a)::L)
abbrev xbf (s:zab) (a b:List Chunk) (q h o p m f x c d:Nat) (L:List (Nat×zad)):List (Nat×zad):=(1000,.live (.cells 139 (ywb s (.own q) (.own h) (.own o) (.own p) (.own m) (.own f) (.own x))))::zya s q h o p m f ((x,.live (.cells 145 [.own c,.own d]))::(c,xfk a)::(d,xfk b)::L)
abbrev xgz (s:zab) (q h o p m f x:Nat) (L:List (Nat×zad)):List (Nat×zad):=(1000,.live (.cells 139 (ywb s (.own q) (.own h) (.own o) (.own p) (.own m) (.own f) (.own x))))::zya s q h o p m f ((x,.live (.cells 145 [zgk]))::L)
abbrev xha (s:zab) (q h o p m f x:Nat) (L:List (Nat×zad)):List (Nat×zad):=(1000,.live (.cells 139 (ywb s (.own q) (.own h) (.own o) (.own p) (.own m) (.own f) (.own x))))::zya s q h o p m f ((x,.live (.cells 145 [zgk,zgk]))::L)
abbrev pH0 (s:zab) :List (Nat×zad):=xiu s  1001 1002 1003 1004 1005 1006  []
abbrev pD0 (s:zab) :List (Nat×zad):=xiu s  0 1 2 3 4 5 [(1001,.dead),(1002,.dead),(1003,.dead),(1004,.dead),(1005,.dead),(1006,.dead)]
abbrev pH1 (s:zab) (a:List Chunk):List (Nat×zad):=xfm s a 1001 1002 1003 1004 1005 1006 1007 1008 []
abbrev pD1 (s:zab) (a:List Chunk):List (Nat×zad):=xfm s a 0 1 2 3 4 5 1007 6 [(1001,.dead),(1002,.dead),(1003,.dead),(1004,.dead),(1005,.dead),(1006,.dead),(1008,.dead)]
abbrev pH2 (s:zab) (a b:List Chunk):List (Nat×zad):=xbf s a b 1001 1002 1003 1004 1005 1006 1007 1008 1009 []
abbrev pD2 (s:zab) (a b:List Chunk):List (Nat×zad):=xbf s a b 0 1 2 3 4 5 1007 6 7 [(1001,.dead),(1002,.dead),(1003,.dead),(1004,.dead),(1005,.dead),(1006,.dead),(1008,.dead),(1009,.dead)]
abbrev pH3 (s:zab) :List (Nat×zad):=xgz s  1001 1002 1003 1004 1005 1006 1007 []
abbrev pD3 (s:zab) :List (Nat×zad):=xgz s  0 1 2 3 4 5 1007 [(1001,.dead),(1002,.dead),(1003,.dead),(1004,.dead),(1005,.dead),(1006,.dead)]
abbrev pH4 (s:zab) :List (Nat×zad):=xha s  1001 1002 1003 1004 1005 1006 1007 []
abbrev pD4 (s:zab) :List (Nat×zad):=xha s  0 1 2 3 4 5 1007 [(1001,.dead),(1002,.dead),(1003,.dead),(1004,.dead),(1005,.dead),(1006,.dead)]
abbrev ypz:List HV:=[i64 0,i64 0,i64 0,i64 0,i64 0,i64 0,i64 0,i64 0,zgk,i64 0,i64 0,zgk,zgk,zgk,i64 0,i64 0,i64 0,zgk,zgk,zbk false,i64 0]
structure Fit (s:zab):Prop where
 queue:s.queue.length<2 ^ 22
 had:s.sched.had.length<2 ^ 22
 out:Sco.zgb s.out
 paths:s.paths.length<2 ^ 22
 mids:s.mids.length<2 ^ 22
 fates:s.fates.length<2 ^ 30
 data:∀ m∈s.queue,m.message.data.length<2 ^ 38
theorem zdb (s:zab) (hs:Fit s):zao Tryz.prog 33 [s.hv] zae (xep s 0 1 2 3 4 5) (lk .free (zya s 0 1 2 3 4 5 [])):=by
 obtain ⟨h1,h2,h3,h4,h5,h6,h7⟩:=hs;refine zan mixed Tryz.func33 zz5 [] (fun _=>.inl rfl) ?_;(conv=>whnf);refine ⟨{x:List zaf×List zaf // s.queue=x.1++x.2},fun | ⟨(A,B),_⟩=>hs 47 [(1,.ptr 1 0),(2,.ptr 2 0),(3,.own 900),(7,Sch.qs s.queue),(8,i64 s.queue.length),(9,i64 A.length)] [(1,.live (.cells 32 (xbg s (Sch.qs s.queue) (ints s.sched.had) (Sco.zsd s.out) (xhm s.paths) (ints s.mids) (ints s.fates)))),(2,.live (.cells 32 ypz)),(900,xhq A)],fun x=>x.1.2.length,⟨([],s.queue),rfl⟩,?_,?_⟩
 . exact (zdx [(1,some 1),(2,some 2),(900,none)])
 rintro ⟨⟨A,B⟩,h⟩;dsimp only at h;(conv=>whnf);cases B with
 | cons p B =>
  have hz:=zcf h;have hp:=h7 p (zks h);refine sT ?_;refine zal h rfl (zw ?_)
  (refine zas [(0,16)]  ?_;(conv=>whnf);refine dO (Cl.zct p.message.data zz0) ?_)
  refine zaa (c:=((A.map zaf.row).length+1)*96<=140737488355328) zz3 (zw ?_);refine sF ?_;refine ⟨⟨(A++[p],B),zar h⟩,(zcr [(1,some 1),(2,some 2),(900,some 22)] (by repeat' (first | exact z0 | refine z1 ?_ | refine ⟨?_,?_⟩ | ((exact zca (f:=zaf.row) rfl rfl)) | exact z2))),by simp⟩
 | nil =>
  have hz:=zcw h;rw [zy8] at h;refine sN ?_
  (refine zas [(0,27)]  ?_;(conv=>whnf);refine dO (Sch.zdb s.sched zz0) ?_)
  (refine zas [(0,30)]  ?_;(conv=>whnf);refine dO (Sco.zdb s.out h3) ?_)
  refine sD ?_
  (refine zas [(0,36)]  ?_;(conv=>whnf);refine dO (Cl.ygu s.paths zz0) ?_)
  (refine zas [(0,39)]  ?_;(conv=>whnf);refine dO (Cl.zpp s.mids zz0) ?_)
  (refine zas [(0,42)]  ?_;(conv=>whnf);refine dO (Cl.zpp s.fates zz0) ?_)
  refine sD ?_;refine zam [(0,some 900),(1,some 27),(2,some 30),(3,some 36),(4,some 39),(5,some 42)] rfl rfl trivial rfl rfl ⟨⟨rfl,.inl ⟨900,rfl,?_⟩⟩,⟨rfl,.inl ⟨27,rfl,rfl⟩⟩,⟨rfl,.inl ⟨30,rfl,rfl⟩⟩,⟨rfl,.inl ⟨36,rfl,rfl⟩⟩,⟨rfl,.inl ⟨39,rfl,rfl⟩⟩,⟨rfl,.inl ⟨42,rfl,rfl⟩⟩,trivial⟩;exact zaq (by rw [h])
theorem yfx (s:zab)  (came life:Int):zao Tryz.prog 130 [.ptr 1000 0,i64 came,i64 life] (lk .free (pH3 s )) (zbk (old s.clock came life)) (lk .free (pH3 s )):=by
 exact yy42
theorem yfy (s:zab)  (came life:Int):zao Tryz.prog 130 [.ptr 1000 0,i64 came,i64 life] (lk .free (pH4 s )) (zbk (old s.clock came life)) (lk .free (pH4 s )):=by
 exact yy42
theorem yfq (s:zab) (a:List Chunk) (h4:s.paths.length<2 ^ 22):zao Tryz.prog 136 [.ptr 1000 0] (lk .free (pH1 s a)) (i64 (zak s)) (lk .free (pH1 s a)):=by
 refine zan mixed Tryz.func136 zz5 [1000,1001,1002,1003,1004,1005,1006,1007,1008] zbi ?_;(conv=>whnf);refine ⟨{x:List Path×List Path // s.paths=x.1++x.2},fun | ⟨(A,B),_⟩=>hsP [1000,1001,1002,1003,1004,1005,1006,1007,1008] 22 [(3,i64 (A.foldl (fun n a=>W (n+a.zak)) 0)),(10,.own 1004),(11,i64 s.paths.length),(12,i64 A.length)] (pH1 s a),fun x=>x.1.2.length,⟨([],s.paths),rfl⟩,?_,?_⟩
 . exact (zbu (pK9 []) zz2)
 rintro ⟨⟨A,B⟩,h⟩;dsimp only at h;(conv=>whnf);cases B with
 | cons p B =>
  have hz:=zcf h;refine sT ?_;refine sO ?_;refine zal h rfl (zw ?_);refine sR ?_;refine sF ?_;exact ⟨⟨(A++[p],B),zar h⟩,(zbu (pK9 []) zz40),by simp⟩
 | nil =>
  have hz:=zcw h;rw [zy8] at h;refine sN ?_
  (exact zdc (pK9 []) zz53)
theorem zrw (s:zab) (a b:List Chunk) (h4:s.paths.length<2 ^ 22):zao Tryz.prog 136 [.ptr 1000 0] (lk .free (pH2 s a b)) (i64 (zak s)) (lk .free (pH2 s a b)):=by
 refine zan mixed Tryz.func136 zz5 [1000,1001,1002,1003,1004,1005,1006,1007,1008,1009] zbi ?_;(conv=>whnf);refine ⟨{x:List Path×List Path // s.paths=x.1++x.2},fun | ⟨(A,B),_⟩=>hsP [1000,1001,1002,1003,1004,1005,1006,1007,1008,1009] 22 [(3,i64 (A.foldl (fun n a=>W (n+a.zak)) 0)),(10,.own 1004),(11,i64 s.paths.length),(12,i64 A.length)] (pH2 s a b),fun x=>x.1.2.length,⟨([],s.paths),rfl⟩,?_,?_⟩
 . exact (zbu (zhf []) zz2)
 rintro ⟨⟨A,B⟩,h⟩;dsimp only at h;(conv=>whnf);cases B with
 | cons p B =>
  have hz:=zcf h;refine sT ?_;refine sO ?_;refine zal h rfl (zw ?_);refine sR ?_;refine sF ?_;exact ⟨⟨(A++[p],B),zar h⟩,(zbu (zhf []) zz40),by simp⟩
 | nil =>
  have hz:=zcw h;rw [zy8] at h;refine sN ?_
  (exact zdc (zhf []) zz53)
end Snd
namespace Sco
open Ser
theorem zeu (l:List zbr) (cum:Int) (hl:l.length<2 ^ 38):zao Tryz.prog 81 [.own 1000,i64 cum] (lk .free [(1000,zjs l)]) (.tup [i64 (zdy l cum).1,.own 0]) (lk .free [(1000,zjs l),(0,.ro (.row 180 3 ((zdy l cum).2.map zga.row)))]):=by
 refine zan mixed Tryz.func81 zz5 [1000] zbi ?_;generalize hR:zdy l cum=R;(conv=>whnf);refine znk.meet PUnit (fun _=>hsP [1000] 47 [(1,i64 R.1),(6,.own 900)] [(1000,zjs l),(900,.ro (.row 180 3 (R.2.map zga.row)))]) ?_ ?_
 . conv=>whnf
   refine ⟨{x:List zbr×List zbr×Int×List zga // l=x.1++x.2.1/\x.2.2.2.length<=8/\zfo x.2.2.1 x.2.2.2 x.2.1=R},fun | ⟨(a,b,z,sk),_⟩=>hsP [1000] 47 [(1,i64 z),(6,.own 900),(10,.own 1000),(11,i64 l.length),(12,i64 a.length)] [(1000,zjs l),(900,yzl sk)],fun x=>x.1.2.1.length,⟨([],l,cum,[]),rfl,by simp,hR⟩,?_,?_⟩
   . exact (zbu [(1000,some 1000),(900,none)] zz2)
   rintro ⟨⟨a,b,z,sk⟩,h,hsk,hi⟩;dsimp only at h hsk hi;cases b with
   | nil =>
    have hz:=zcw h;simp only [zfo] at hi;subst hi;(conv=>whnf);refine sN ?_;exact ⟨⟨⟩,(zcx [(1000,some 1000),(900,some 900)])⟩
   | cons s b =>
    have hz:=zcf h;simp only [zfo] at hi;(conv=>whnf);refine sT ?_;refine sO ?_;refine zal h rfl (zw ?_);refine sR ?_;refine zah (fun c1=>?_) (fun c1=>?_)
    . have c1:s.number≠W (z+1):=by simpa using c1
      rw [zy1 (.inl c1)] at hi;subst hi;(conv=>whnf);exact ⟨⟨⟩,(zcx [(1000,some 1000),(900,some 900)])⟩
    have c1:¬ s.number≠W (z+1):=by simpa using c1
    (conv=>whnf);have sl:=ymr s.chunk sk;by_cases c2:s.state=4
    . rw [zy0 (by rintro (h1 | h1);exact c1 h1;exact h1.1 c2),zy1 c2] at hi
      refine sN ?_
      (try refine sG ?_)
      refine sT ?_
      (refine zas [(0,37)]  ?_;(conv=>whnf);refine dO (zvk sk s.chunk zz0) ?_)
      refine zah (fun c3=>?_) (fun c3=>?_)
      . have c3:(skip s.chunk sk).length>8:=by simp at c3;omega
        rw [zy1 c3] at hi;subst hi;(conv=>whnf);exact ⟨⟨⟩,(zcx [(1000,some 1000),(900,some 900)])⟩
      . have c3:¬ (skip s.chunk sk).length>8:=by simp at c3;omega
        rw [zy0 c3] at hi;(conv=>whnf);refine sF ?_;exact ⟨⟨(a++[s],b,s.number,skip s.chunk sk),zar h,by dsimp only;omega,hi⟩,(zcx [(1000,some 1000),(900,some 37)]),by simp⟩
    . by_cases c3:s.state=2
      . rw [zy0 (by rintro (h1 | h1);exact c1 h1;exact h1.2 c3),zy0 c2] at hi
        refine sT ?_;refine sN ?_
        (try refine sG ?_)
        refine sN ?_;refine sF ?_;exact ⟨⟨(a++[s],b,s.number,sk),zar h,hsk,hi⟩,(zcx [(1000,some 1000),(900,some 900)]),by simp⟩
      . rw [zy1 (.inr ⟨c2,c3⟩)] at hi
        subst hi;refine sT ?_;refine sT ?_;exact ⟨⟨⟩,(zcx [(1000,some 1000),(900,some 900)])⟩
 . rintro ⟨⟩
   conv=>whnf
   (exact zby [(1000,some 1000),(0,some 900)])
end Sco
namespace Snd
theorem xag (l:List zaf) (hb:l.length<2 ^ 39):zao Tryz.prog 129 [.own 1000] (lk .free [(1000,.live (.row 117 10 (l.map zaf.row)))]) (.own 0) (lk .free [(1000,.live (.row 117 10 (l.map zaf.row))),(0,.live (.row 117 10 (l.map zaf.row)))]):=by
 refine zan mixed Tryz.func129 zz5 [1000] zbi ?_;(conv=>whnf);intro b hn;(conv=>whnf);refine zah (fun c=>?_) (fun c=>?_)
 . conv=>whnf
   exact yy78
 . conv=>whnf
   refine zaa (c:=(([]:List (List PV)).length+(l.map zaf.row).length)*96<=140737488355328) zz3 ?_;exact yy69
theorem xah (l:List zbr) (hb:l.length<2 ^ 38):zao Tryz.prog 132 [.own 1000] (lk .free [(1000,.live (.row 134 20 (l.map zbr.row)))]) (.own 0) (lk .free [(1000,.live (.row 134 20 (l.map zbr.row))),(0,.live (.row 134 20 (l.map zbr.row)))]):=by
 refine zan mixed Tryz.func132 zz5 [1000] zbi ?_;(conv=>whnf);intro b hn;(conv=>whnf);refine zah (fun c=>?_) (fun c=>?_)
 . conv=>whnf
   exact yy78
 . conv=>whnf
   refine zaa (c:=(([]:List (List PV)).length+(l.map zbr.row).length)*200<=140737488355328) zz3 ?_;exact yy69
end Snd
namespace Snd
open Ser Cl
theorem znb {g:FuncId} {c1:List PV} {p:zaf->Bool} (hg:∀ m:zaf,zao Tryz.prog g [m.hv,.rp c1] zae (zbk (p m)) zae) (q:List zaf) (hb:q.length<2 ^ 62) :
 zao Tryz.prog 158 [.p (.sl 10 (q.map zaf.row)),.clo g [.rp c1]] zae (i64 (zbq p 0 q)) zae:=by
 refine zap mixed Tryz.func158 zz5 ?_;(conv=>whnf);refine ⟨{k:Nat // k<=q.length/\zbq p k (q.drop k)=zbq p 0 q},fun | ⟨k,_⟩=>hs 19 [(0,.p (.sl 10 (q.map zaf.row))),(1,.clo g [.rp c1]),(7,i64 (q.map zaf.row).length),(8,i64 k)] [],fun k=>q.length-k.1,⟨0,by simp⟩,?_,?_⟩
 . exact (zdx [])
 . rintro ⟨k,hk,hi⟩
   exact yy5
theorem ycj {g:FuncId} {c1:List PV} {p:zaf->Bool} (hg:∀ m:zaf,zao Tryz.prog g [m.hv,.rp c1] zae (zbk (p m)) zae) (A0 B0:List zaf) (x:zaf) (hA:∀ y∈A0,p y=false) (hx:p x=true) (hb:(A0++x::B0).length<2 ^ 38) :
 zao Tryz.prog 160 [.own 1000,.clo g [.rp c1]] (lk .free [(1000,.live (.row 117 10 ((A0++x::B0).map zaf.row)))])
  (.osl 1000 10 0 ((A0++x::B0).filter fun y=>!p y).length) (lk .free [(1000,.live (.row 117 10 ((((A0++x::B0).filter fun y=>!p y).map zaf.row)++List.replicate ((A0++x::B0).length-((A0++x::B0).filter fun y=>!p y).length) ([pi 0,pi 0,pi 0,pi 0,pi 0,pi 0,pb false,pi 0,pi 0,.v (.slice none 0 0)]))))]):=by
 refine zan mixed Tryz.func160 zz5 [1000] zbi ?_;have hfA:A0.filter (fun y=>!p y)=A0:=zy84.2 fun y hy=>by rw [hA y hy];rfl
 have hlen:(A0++x::B0).length=A0.length+1+B0.length:=by simp;omega
 conv=>whnf
 (refine cL ?_;refine dL (znb hg (A0++x::B0) zz0) ?_)
 rw [ydl A0 B0 x hA hx];(conv=>whnf)
 try refine sG ?_
 refine sF ?_;refine ⟨{y:(List zaf×List zaf)×List zaf×List zaf // A0++x::B0=y.1.1++y.1.2/\y.2.1=y.1.1.filter (fun z=>!p z)/\0<y.2.2.length/\y.2.1.length+y.2.2.length=y.1.1.length},fun | ⟨((A,B),K,G),_⟩=>hsP [1000] 42 [(0,.own 1000),(1,.clo g [.rp c1]),(5,i64 K.length),(6,i64 A.length)] [(1000,.live (.row 117 10 ((K++G++B).map zaf.row)))],fun y=>y.1.1.2.length,⟨((A0++[x],B0),A0,[x]),by simp,by simp [hfA,hx],by simp,by simp⟩,?_,?_⟩
 . exact (zbu [(1000,some 1000)] zz14)
 rintro ⟨⟨⟨A,B⟩,K,G⟩,h,hK,hG,hl⟩;dsimp only at h hK hG hl;have hAB:(A0++x::B0).length=A.length+B.length:=by rw [h];simp
 (conv=>whnf);cases B with
 | nil =>
  rw [zy14] at hAB;rw [zy8] at h;have hF:(A0++x::B0).filter (fun z=>!p z)=K:=by rw [h,hK]
  refine zag zz3 (zw ?_)
  try refine sG ?_
  refine sOm ?_;refine sOm ?_;refine zaa zz35 (zw ?_);refine zam [(1000,some 1000)] rfl rfl ⟨rfl,trivial⟩ rfl ?_ ⟨⟨rfl,.inl ⟨1000,rfl,?_⟩⟩,trivial⟩
  . show HV.osl 1000 10 0 _=HV.osl 1000 10 0 _
    rw [hF];rfl
  . refine zaq ?_
    rw [hF,zcm,zy8,zy36,zy31 (by simp;omega),zy8];congr 1
    . exact zy93 zz4
    . congr 1;simp;omega
 | cons v B =>
  rw [zy5] at hAB;have e1:K++G++v::B=(K++G)++v::B:=rfl;refine zai zz3 (zw ?_)
  try refine sG ?_
  refine sO ?_;refine zal e1 zz3 (zw ?_)
  (refine cZ ?_;refine dL (hg v) ?_)
  cases hv:p v with
  | true =>
   exact yy64
  | false =>
   obtain ⟨g0,G,rfl⟩:∃ g0 G',G=g0::G':=by cases G with
    | nil=>simp at hG
    | cons a b=>exact ⟨a,b,rfl⟩
   have e2:K++(g0::G)++v::B=K++g0::(G++v::B):=by simp
   rw [zy5] at hl;(conv=>whnf)
   try refine sG ?_
   refine sO ?_;refine zal e2 zz4 (zw ?_);refine sF ?_;refine sF ?_;refine ⟨⟨((A++[v],B),K++[v],G++[v]),by rw [h];simp,by rw [zy53,<- hK];simp [hv],by simp,by simp;omega⟩,(zbu [(1000,some 1000)] (by repeat' (first | exact z0 | refine z1 ?_ | refine ⟨?_,?_⟩ | ((exact zbj om)) | ((exact (zer (f:=zaf.row) (a:=K) (b:=G++v::B) (x:=g0) (y:=v) (by simp) rfl).symm.trans (zaq (by simp)))) | ((refine (ymn e2 ?_ rfl).trans (zaq (by simp));simp)) | exact z2))),by simp⟩
theorem zwu {g:FuncId} {c1:List PV} {p:zaf->Bool} (hg:∀ m:zaf,zao Tryz.prog g [m.hv,.rp c1] zae (zbk (p m)) zae) (l:List zaf) (hb:l.length<2 ^ 38) :
 zao Tryz.prog 160 [.own 1000,.clo g [.rp c1]] (lk .free [(1000,.live (.row 117 10 (l.map zaf.row)))])
  (.own 0) (lk .free [(1000,.dead),(0,.live (.row 117 10 ((l.filter fun y=>!p y).map zaf.row)))]):=by
 rcases ydm p l with ⟨h1,h2⟩ | ⟨A,x,B,rfl,hA,hx⟩
 . refine zan mixed Tryz.func160 zz5 [1000] zbi ?_
   rw [zy84.2 fun y hy=>by rw [h2 y hy];rfl];(conv=>whnf)
   (refine cL ?_;refine dL (znb hg l zz0) ?_)
   exact yy70
 . have h:=zjj (d:=0) (L:=[]) (rows:=(((A++x::B).filter fun y=>!p y).map zaf.row)++List.replicate ((A++x::B).length-((A++x::B).filter fun y=>!p y).length) ([pi 0,pi 0,pi 0,pi 0,pi 0,pi 0,pb false,pi 0,pi 0,.v (.slice none 0 0)])) (ycj hg A B x hA hx hb) (.inl rfl) zz4 rfl zz5
   rwa [zy93 zz4] at h
theorem zyc (id:Int) (m:zaf):zao Tryz.prog 161 [m.hv,.rp [pi id]] zae (zbk (m.id==id)) zae:=by
 refine zap mixed Tryz.func161 zz5 ?_;(conv=>whnf)
theorem yhd (f:Nat->Path->Path) (A:List Path) (p:Path) (B:List Path):(A++[p]).mapIdx f++B=A.mapIdx f++f A.length p::B:=by
 rw [List.mapIdx_concat];simp
theorem yaz (s:zab)  (h3:Sco.zgb s.out) (h4:s.paths.length<2 ^ 22):zao Tryz.prog 78 [.ptr 1000 0] (lk .free (pH0 s )) (.tup []) (lk .free (pD0 (zek s) )):=by
 refine zan mixed Tryz.func78 zz5 [1000,1001,1002,1003,1004,1005,1006] zbi ?_;(conv=>whnf);refine ⟨{x:List Path×List Path // s.paths=x.1++x.2},fun | ⟨(A,B),_⟩=>hsP [1000,1001,1002,1003,1004,1005,1006] 25 [(0,.ptr 1000 0),(7,i64 s.paths.length),(8,i64 A.length)] (pH0 {s with paths:=A.mapIdx (flP s.out)++B} ),fun x=>x.1.2.length,⟨([],s.paths),rfl⟩,?_,?_⟩
 . exact (zbu (pK7 []) zz2)
 rintro ⟨⟨A,B⟩,h⟩;dsimp only at h;(conv=>whnf);cases B with
 | cons p B =>
  have hz:=zcf h;refine sT ?_
  (refine cL ?_;refine dL (Sco.znt s.out A.length h3) ?_)
  refine sOm ?_;refine zal (a:=A.mapIdx (flP s.out)) (b:=B) (s:=p) rfl zz4 (zw ?_);refine sD ?_;refine sF ?_;exact ⟨⟨(A++[p],B),zar h⟩,(zbu (pK7 []) zz27),by simp⟩
 | nil =>
  have hz:=zcw h;rw [zy8] at h;refine sN ?_
  (exact zdc (pK7 [(0,some 1001),(1,some 1002),(2,some 1003),(3,some 1004),(4,some 1005),(5,some 1006)]) zz26)
theorem zow (s:zab)  (h3:Sco.zgb s.out) (h4:s.paths.length<2 ^ 22):zao Tryz.prog 78 [.ptr 1000 0] (lk .free (pH3 s )) (.tup []) (lk .free (pD3 (zek s) )):=by
 refine zan mixed Tryz.func78 zz5 [1000,1001,1002,1003,1004,1005,1006,1007] zbi ?_;(conv=>whnf);refine ⟨{x:List Path×List Path // s.paths=x.1++x.2},fun | ⟨(A,B),_⟩=>hsP [1000,1001,1002,1003,1004,1005,1006,1007] 25 [(0,.ptr 1000 0),(7,i64 s.paths.length),(8,i64 A.length)] (pH3 {s with paths:=A.mapIdx (flP s.out)++B} ),fun x=>x.1.2.length,⟨([],s.paths),rfl⟩,?_,?_⟩
 . exact (zbu (pK8 []) zz2)
 exact yy18
theorem zox (s:zab)  (h3:Sco.zgb s.out) (h4:s.paths.length<2 ^ 22):zao Tryz.prog 78 [.ptr 1000 0] (lk .free (pH4 s )) (.tup []) (lk .free (pD4 (zek s) )):=by
 refine zan mixed Tryz.func78 zz5 [1000,1001,1002,1003,1004,1005,1006,1007] zbi ?_;(conv=>whnf);refine ⟨{x:List Path×List Path // s.paths=x.1++x.2},fun | ⟨(A,B),_⟩=>hsP [1000,1001,1002,1003,1004,1005,1006,1007] 25 [(0,.ptr 1000 0),(7,i64 s.paths.length),(8,i64 A.length)] (pH4 {s with paths:=A.mapIdx (flP s.out)++B} ),fun x=>x.1.2.length,⟨([],s.paths),rfl⟩,?_,?_⟩
 . exact (zbu (pK8 []) zz2)
 exact yy18
end Snd
namespace Snd
open Ser
theorem ywu (id:Int) (s:zab) (m:zaf):(zfc id s m).out.length<=s.out.length+1/\Sco.total (zfc id s m).out=Sco.total s.out:=by
 unfold zfc;split
 . simp [Sco.total,zry]
 . exact ⟨by omega,rfl⟩
theorem ykf (id:Int):∀ (q:List zaf) (s:zab),(q.foldl (zfc id) s).out.length<=s.out.length+q.length/\Sco.total (q.foldl (zfc id) s).out=Sco.total s.out
 | [],s=>⟨by simp,rfl⟩
 | m::q,s=>by
  obtain ⟨h1,h2⟩:=ywu id s m;obtain ⟨h3,h4⟩:=ykf id q (zfc id s m);simp only [zy39,zy5];exact ⟨by omega,by omega⟩
theorem zwv (id:Int) (s:zab) (m:zaf):zfc id s m={s with out:=(zfc id s m).out,next:=(zfc id s m).next}:=by
 unfold zfc;split<;>rfl
theorem zpr (id:Int):∀ (q:List zaf) (s:zab),q.foldl (zfc id) s={s with out:=(q.foldl (zfc id) s).out,next:=(q.foldl (zfc id) s).next}
 | [],s=>rfl
 | m::q,s=>by
  have h1:=zwv id s m;have h2:=zpr id q (zfc id s m);simp only [zy39];rw [h2];generalize q.foldl (zfc id) (zfc id s m)=z;rw [h1]
theorem zjm (id:Int) (l:List zbr):Sco.total (l.map (Sco.zie id))=Sco.total l:=by
 have:∀ s:zbr,(Sco.zie id s).chunk=s.chunk:=fun s=>by unfold Sco.zie;split<;>rfl
 simp only [Sco.total,zy95];congr 1;exact zy86 fun s _=>by simp [this]
def zjk (s:zab) (id:Nat) (o:List zbr) (n:Int):zab:={s with fates:=s.fates.set id 3,out:=o,next:=n}
theorem yqu (s:zab) (id:Nat) (q:List zaf):∃ o n,q.foldl (zfc id) {s with fates:=s.fates.set id 3}=zjk s id o n/\o.length<=s.out.length+q.length/\Sco.total o=Sco.total s.out:=by
 have h1:=zpr id q {s with fates:=s.fates.set id 3};obtain ⟨h2,h3⟩:=ykf id q {s with fates:=s.fates.set id 3};exact ⟨_,_,h1,h2,h3⟩
theorem zvf (s:zab)  (id:Nat) (hs:Fit s) (hid:id<s.fates.length) (h9:s.out.length<2 ^ 30):zao Tryz.prog 131 [.ptr 1000 0,i64 id] (lk .free (pH3 s )) (.tup []) (lk .free (pD3 (zfn s id) )):=by
 obtain ⟨h1,h2,h3,h4,h5,h6,h7⟩:=hs;have hg:zfn s id=zek {(s.queue.foldl (zfc id) {s with fates:=s.fates.set id 3}) with queue:=s.queue.filter fun m=>decide (m.id≠id),sched:=if s.sched.hand=id then {s.sched with hand:=-1} else s.sched,out:=(s.queue.foldl (zfc id) {s with fates:=s.fates.set id 3}).out.map (Sco.zie id),forward:=true}:=rfl;refine zan mixed Tryz.func131 zz5 [1000,1001,1002,1003,1004,1005,1006,1007] zbi ?_;(conv=>whnf);refine sO ?_;refine zdk id rfl hid (zw ?_);refine sD ?_;refine ⟨{x:(List zaf×List zaf)×List zbr×Int // s.queue=x.1.1++x.1.2/\x.1.1.foldl (zfc id) {s with fates:=s.fates.set id 3}=zjk s id x.2.1 x.2.2/\x.2.1.length<=s.out.length+x.1.1.length/\Sco.total x.2.1=Sco.total s.out},
  fun | ⟨((A,B),o,n),_⟩=>hsP [1000,1001,1002,1003,1004,1005,1006,1007] 121 [(0,.ptr 1000 0),(3,.ptr 3 0),(17,.own 1001),(18,i64 s.queue.length),(19,i64 A.length)] (xgz (zjk s id o n)  1001 1002 900 1004 1005 1006 1007 [(1003,.dead),(3,.live (.cells 3 [i64 id]))]),fun x=>x.1.1.2.length,⟨(([],s.queue),s.out,s.next),rfl,rfl,by simp,rfl⟩,?_,?_⟩
 . exact (zbu (pK8 ((900,some 1003)::[(3,some 3)])) zz34)
 rintro ⟨⟨⟨A,B⟩,o,n⟩,k1,k2,k3,k4⟩;dsimp only at k1 k2 k3 k4;(conv=>whnf);cases B with
 | cons m B =>
  exact yy7
 | nil =>
  have hz:=zcw k1;rw [zy8] at k1;rw [<- k1] at k2;rw [hg,k2];refine sN ?_
  (refine zac [false,true] [(1000,1001)] [(0,85)] ?_;(conv=>whnf);refine dG (zwu (fun m=>zyc id m) s.queue zz0) ?_)
  have hsz:Sco.zgb o:=⟨by omega,by rw [k4];exact h3.bytes⟩
  by_cases c1:s.sched.hand=id
  . rw [zy1 c1]
    refine sD ?_;refine zai ?_ ?_
    . simp [zjk,c1]
    conv=>whnf
    repeat refine sG ?_
    (refine zas [(0,109)] ?_;(conv=>whnf);refine dO (Sco.zoy o id hsz) ?_)
    refine sD ?_
    (refine zac [] [(1000,1000),(1001,85),(1002,1002),(1003,109),(1004,1004),(1005,1005),(1006,1006),(1007,1007)] [(0,910),(1,911),(2,912),(3,913),(4,914),(5,915)] ?_;(conv=>whnf);refine dG (zow {(zjk s id o n) with queue:=s.queue.filter fun m=>!(m.id==(id:Int)),sched:={s.sched with hand:=-1},out:=o.map (Sco.zie id)}  ⟨by simp;exact hsz.len,by rw [zjm];exact hsz.bytes⟩ h4) ?_)
    exact yy31
  . rw [zy0 c1]
    refine sD ?_;refine zag ?_ ?_
    . simp [zjk,c1]
    conv=>whnf
    repeat refine sG ?_
    (refine zas [(0,109)] ?_;(conv=>whnf);refine dO (Sco.zoy o id hsz) ?_)
    refine sD ?_
    (refine zac [] [(1000,1000),(1001,85),(1002,1002),(1003,109),(1004,1004),(1005,1005),(1006,1006),(1007,1007)] [(0,910),(1,911),(2,912),(3,913),(4,914),(5,915)] ?_;(conv=>whnf);refine dG (zow {(zjk s id o n) with queue:=s.queue.filter fun m=>!(m.id==(id:Int)),sched:=s.sched,out:=o.map (Sco.zie id)}  ⟨by simp;exact hsz.len,by rw [zjm];exact hsz.bytes⟩ h4) ?_)
    exact yy31
theorem zvg (s:zab)  (id:Nat) (hs:Fit s) (hid:id<s.fates.length) (h9:s.out.length<2 ^ 30):zao Tryz.prog 131 [.ptr 1000 0,i64 id] (lk .free (pH4 s )) (.tup []) (lk .free (pD4 (zfn s id) )):=by
 obtain ⟨h1,h2,h3,h4,h5,h6,h7⟩:=hs;have hg:zfn s id=zek {(s.queue.foldl (zfc id) {s with fates:=s.fates.set id 3}) with queue:=s.queue.filter fun m=>decide (m.id≠id),sched:=if s.sched.hand=id then {s.sched with hand:=-1} else s.sched,out:=(s.queue.foldl (zfc id) {s with fates:=s.fates.set id 3}).out.map (Sco.zie id),forward:=true}:=rfl;refine zan mixed Tryz.func131 zz5 [1000,1001,1002,1003,1004,1005,1006,1007] zbi ?_;(conv=>whnf);refine sO ?_;refine zdk id rfl hid (zw ?_);refine sD ?_;refine ⟨{x:(List zaf×List zaf)×List zbr×Int // s.queue=x.1.1++x.1.2/\x.1.1.foldl (zfc id) {s with fates:=s.fates.set id 3}=zjk s id x.2.1 x.2.2/\x.2.1.length<=s.out.length+x.1.1.length/\Sco.total x.2.1=Sco.total s.out},
  fun | ⟨((A,B),o,n),_⟩=>hsP [1000,1001,1002,1003,1004,1005,1006,1007] 121 [(0,.ptr 1000 0),(3,.ptr 3 0),(17,.own 1001),(18,i64 s.queue.length),(19,i64 A.length)] (xha (zjk s id o n)  1001 1002 900 1004 1005 1006 1007 [(1003,.dead),(3,.live (.cells 3 [i64 id]))]),fun x=>x.1.1.2.length,⟨(([],s.queue),s.out,s.next),rfl,rfl,by simp,rfl⟩,?_,?_⟩
 . exact (zbu (pK8 ((900,some 1003)::[(3,some 3)])) zz34)
 rintro ⟨⟨⟨A,B⟩,o,n⟩,k1,k2,k3,k4⟩;dsimp only at k1 k2 k3 k4;(conv=>whnf);cases B with
 | cons m B =>
  exact yy7
 | nil =>
  have hz:=zcw k1;rw [zy8] at k1;rw [<- k1] at k2;rw [hg,k2];refine sN ?_
  (refine zac [false,true] [(1000,1001)] [(0,85)] ?_;(conv=>whnf);refine dG (zwu (fun m=>zyc id m) s.queue zz0) ?_)
  have hsz:Sco.zgb o:=⟨by omega,by rw [k4];exact h3.bytes⟩
  by_cases c1:s.sched.hand=id
  . rw [zy1 c1]
    refine sD ?_;refine zai ?_ ?_
    . simp [zjk,c1]
    conv=>whnf
    repeat refine sG ?_
    (refine zas [(0,109)] ?_;(conv=>whnf);refine dO (Sco.zoy o id hsz) ?_)
    refine sD ?_
    (refine zac [] [(1000,1000),(1001,85),(1002,1002),(1003,109),(1004,1004),(1005,1005),(1006,1006),(1007,1007)] [(0,910),(1,911),(2,912),(3,913),(4,914),(5,915)] ?_;(conv=>whnf);refine dG (zox {(zjk s id o n) with queue:=s.queue.filter fun m=>!(m.id==(id:Int)),sched:={s.sched with hand:=-1},out:=o.map (Sco.zie id)}  ⟨by simp;exact hsz.len,by rw [zjm];exact hsz.bytes⟩ h4) ?_)
    exact yy31
  . rw [zy0 c1]
    refine sD ?_;refine zag ?_ ?_
    . simp [zjk,c1]
    conv=>whnf
    repeat refine sG ?_
    (refine zas [(0,109)] ?_;(conv=>whnf);refine dO (Sco.zoy o id hsz) ?_)
    refine sD ?_
    (refine zac [] [(1000,1000),(1001,85),(1002,1002),(1003,109),(1004,1004),(1005,1005),(1006,1006),(1007,1007)] [(0,910),(1,911),(2,912),(3,913),(4,914),(5,915)] ?_;(conv=>whnf);refine dG (zox {(zjk s id o n) with queue:=s.queue.filter fun m=>!(m.id==(id:Int)),sched:=s.sched,out:=o.map (Sco.zie id)}  ⟨by simp;exact hsz.len,by rw [zjm];exact hsz.bytes⟩ h4) ?_)
    exact yy31
end Snd
namespace Snd
open Ser
theorem zaj {α:Type} {f:α->List PV} {l:List α} {i:Nat} {x:α} {z:Int} {K:List PV->Prop} (hx:l[i]?=some x) (hz:z=i) (hk:K (f x)):zvy (l.map f) z K :=
 ⟨_,by omega,by rw [hz,zy40,zy10,hx];rfl,hk⟩
theorem zes {α:Type} {t n:Nat} {f:α->List PV} {l:List α} {k:Nat} {y:α} {r:List PV} (hr:f y=r):zad.live (.row t n ((l.map f).set k r))=zad.live (.row t n ((l.set k y).map f)):=by
 rw [<- hr,zy107]
theorem yau {α:Type} {t n:Nat} {f:α->List PV} {l:List α} {k:Nat} {y:α} {r r1 r2 r3:List PV} (hr:f y=r):zad.live (.row t n (((((l.map f).set k r1).set k r2).set k r3).set k r))=zad.live (.row t n ((l.set k y).map f)):=by
 rw [zy148,zy148,zy148];exact zes hr
theorem yat {t:TypeId} {l:List Path} {k:Nat} {w:Path} {d:List UInt8}:zad.live (.row t 7 ((l.map Path.row).set k [pi w.window,pi w.slow,pi w.gathered,pi (W (w.zak+((d.map zdu).length:Int))),pi w.errors,pi w.zcj,pi w.wait]))=zad.live (.row t 7 ((l.set k {w with zak:=W (w.zak+d.length)}).map Path.row)):=by
 rw [zy2];exact zes rfl
def ycp (s:zab) (i path:Nat) (x:zbr) (a:Path):zab:={s with out:=s.out.set i (zvx x path),paths:=s.paths.set path {a with zak:=W (a.zak+x.chunk.data.length)}}
theorem xal {s:zab} {o:List (List Chunk)} {i path:Nat} {x:zbr} {a:Path} {l:List Chunk} (hx:s.out[i]?=some x) (ha:s.paths[path]?=some a) (hl:o[path]?=some l) :
 fly ⟨s,o⟩ i path=⟨ycp s i path x a,o.set path (l++[x.chunk])⟩:=by
 simp only [fly,hx,setAt,ha,hl,ycp]
theorem znu (s:zab) (a:List Chunk) (i:Nat) (x:zbr) (w:Path) (hx:s.out[i]?=some x) (ha:s.paths[0]?=some w) (hb:a.length<2 ^ 30) :
 zao Tryz.prog 134 [.ptr 1000 0,.eptr 1003 20 i 0,i64 0] (lk .free (pH1 s a)) (.tup []) (lk .free (xfm (ycp s i 0 x w) (a++[x.chunk]) 1001 1002 1003 1004 1005 1006 1007 0 [(1008,.dead)])):=by
 refine zan mixed Tryz.func134 zz5 [1000,1001,1002,1003,1004,1005,1006,1007,1008] zbi ?_;have hi:i<s.out.length:=(zy9.1 hx).1;have hp:0<s.paths.length:=(zy9.1 ha).1;(conv=>whnf);refine zaj hx rfl (zw ?_);refine zbt rfl zz3 (zw ?_);refine zbt rfl zz3 (zw ?_);refine zbt rfl zz3 (zw ?_);refine sR ?_;refine zbt rfl zz3 (zw ?_);refine sOm ?_;refine zaj ha rfl (zw ?_);refine zbt rfl zz3 (zw ?_);refine sR ?_;refine sOm ?_;refine zaj ha rfl (zw ?_);refine sD ?_;refine ⟨0,rfl,by decide,zw ?_⟩;refine zbt rfl zz3 (zw ?_);refine zaa (c:=((a.map Chunk.row).length+1)*128<=140737488355328) zz3 (zw ?_);refine ⟨0,rfl,by decide,zw ?_⟩;refine sD ?_
 (exact zdc (pK9 [(0,some 58)]) zz21)
theorem znv (s:zab) (a b:List Chunk) (i:Nat) (x:zbr) (w:Path) (hx:s.out[i]?=some x) (ha:s.paths[0]?=some w) (hb:a.length<2 ^ 30) :
 zao Tryz.prog 134 [.ptr 1000 0,.eptr 1003 20 i 0,i64 0] (lk .free (pH2 s a b)) (.tup []) (lk .free (xbf (ycp s i 0 x w) (a++[x.chunk]) b 1001 1002 1003 1004 1005 1006 1007 0 1009 [(1008,.dead)])):=by
 refine zan mixed Tryz.func134 zz5 [1000,1001,1002,1003,1004,1005,1006,1007,1008,1009] zbi ?_;have hi:i<s.out.length:=(zy9.1 hx).1;have hp:0<s.paths.length:=(zy9.1 ha).1;(conv=>whnf);refine zaj hx rfl (zw ?_);refine zbt rfl zz3 (zw ?_);refine zbt rfl zz3 (zw ?_);refine zbt rfl zz3 (zw ?_);refine sR ?_;refine zbt rfl zz3 (zw ?_);refine sOm ?_;refine zaj ha rfl (zw ?_);refine zbt rfl zz3 (zw ?_);refine sR ?_;refine sOm ?_;refine zaj ha rfl (zw ?_);refine sD ?_;refine ⟨0,rfl,by decide,zw ?_⟩;refine zbt rfl zz3 (zw ?_);refine zaa (c:=((a.map Chunk.row).length+1)*128<=140737488355328) zz3 (zw ?_);refine ⟨0,rfl,by decide,zw ?_⟩;refine sD ?_
 (exact zdc (zhf [(0,some 58)]) zz21)
theorem znw (s:zab) (a b:List Chunk) (i:Nat) (x:zbr) (w:Path) (hx:s.out[i]?=some x) (ha:s.paths[1]?=some w) (hb:b.length<2 ^ 30) :
 zao Tryz.prog 134 [.ptr 1000 0,.eptr 1003 20 i 0,i64 1] (lk .free (pH2 s a b)) (.tup []) (lk .free (xbf (ycp s i 1 x w) a (b++[x.chunk]) 1001 1002 1003 1004 1005 1006 1007 1008 0 [(1009,.dead)])):=by
 refine zan mixed Tryz.func134 zz5 [1000,1001,1002,1003,1004,1005,1006,1007,1008,1009] zbi ?_;have hi:i<s.out.length:=(zy9.1 hx).1;have hp:1<s.paths.length:=(zy9.1 ha).1;(conv=>whnf);refine zaj hx rfl (zw ?_);refine zbt rfl zz3 (zw ?_);refine zbt rfl zz3 (zw ?_);refine zbt rfl zz3 (zw ?_);refine sR ?_;refine zbt rfl zz3 (zw ?_);refine sOm ?_;refine zaj ha rfl (zw ?_);refine zbt rfl zz3 (zw ?_);refine sR ?_;refine sOm ?_;refine zaj ha rfl (zw ?_);refine sD ?_;refine ⟨1,rfl,by decide,zw ?_⟩;refine zbt rfl zz3 (zw ?_);refine zaa (c:=((b.map Chunk.row).length+1)*128<=140737488355328) zz3 (zw ?_);refine ⟨1,rfl,by decide,zw ?_⟩;refine sD ?_
 (exact zdc (zhf [(0,some 58)]) zz21)
end Snd
namespace Snd
open Ser
def zhx (s:zab) (k:Nat) (m:zaf):zab:={s with queue:=s.queue.set k {m with mid:=zcd s m},mids:=zdp s m}
structure xhu (s:zab) (m:zaf):Prop where
 lo:0<=m.message.stream
 hi:m.message.stream<2 ^ 40
 lo2:0<=s.config.streams
 hi2:s.config.streams<2 ^ 40
 at_:m.mid<0->zif s m<s.mids.length
theorem zou {α:Type} {l:List α} {k:Nat} {x:α} (h:l[k]?=some x):l.set k x=l:=by
 obtain ⟨hk,rfl⟩:=zy9.1 h;exact List.set_getElem_self hk
theorem yea {s:zab} {k:Nat} {m:zaf} (hk:s.queue[k]?=some m) (h:zcd s m=m.mid):(zhx s k m).queue=s.queue:=by
 show s.queue.set k {m with mid:=zcd s m}=_;rw [h];exact zou hk
theorem yaa {s:zab} {k:Nat} {m:zaf} {v:Int} {t:TypeId} (h:zcd s m=v):zad.live (.row t 10 ((s.queue.map zaf.row).set k ({m with mid:=v}:zaf).row))=zad.live (.row t 10 ((zhx s k m).queue.map zaf.row)):=by
 rw [<- h];exact zes rfl
theorem yft (s:zab) (a:List Chunk) (k:Nat) (m:zaf) (hk:s.queue[k]?=some m) (hf:xhu s m) :
 zao Tryz.prog 137 [.ptr 1000 0,.eptr 1001 10 k 0] (lk .free (pH1 s a)) (i64 (zcd s m)) (lk .free (pH1 (zhx s k m) a)):=by
 obtain ⟨f1,f2,f3,f4,f5⟩:=hf;have hk':k<s.queue.length:=(zy9.1 hk).1;refine zan mixed Tryz.func137 zz5 [1000,1001,1002,1003,1004,1005,1006,1007,1008] zbi ?_;(conv=>whnf);refine znk.go (zw ?_);refine zaj hk rfl (zw ?_);by_cases c1:m.mid<0
 . have f5:=f5 c1
   obtain ⟨v,hv⟩:∃ v,s.mids[zif s m]?=some v:=⟨_,zy3 f5⟩
   have hmo:zcd s m=v:=by rw [zcd,zy1 c1,hv];rfl
   have hms:zdp s m=s.mids.set (zif s m) (W (v+1)):=by rw [zdp,zy1 c1,setAt,hv]
   refine sT ?_;refine zaj hk rfl (zw ?_)
   repeat refine sG ?_
   refine zaj hk rfl (zw ?_)
   repeat refine sG ?_
   cases c2:m.message.ordered with
   | true =>
    have hat:zif s m=m.message.stream.toNat:=by rw [zif,c2];simp
    conv=>whnf
    repeat refine sG ?_
    exact yy34
   | false =>
    have hat:zif s m=(m.message.stream+s.config.streams).toNat:=by rw [zif,c2];simp
    conv=>whnf
    repeat refine sG ?_
    refine sF ?_;exact yy34
 . refine sN ?_
   repeat refine sG ?_
   refine zaj hk rfl (zw ?_);have hmo:zcd s m=m.mid:=by rw [zcd,zy0 c1]
   have hms:zdp s m=s.mids:=by rw [zdp,zy0 c1]
   (exact zdc (pK9 []) zz24)
theorem zpa (s:zab) (a b:List Chunk) (k:Nat) (m:zaf) (hk:s.queue[k]?=some m) (hf:xhu s m) :
 zao Tryz.prog 137 [.ptr 1000 0,.eptr 1001 10 k 0] (lk .free (pH2 s a b)) (i64 (zcd s m)) (lk .free (pH2 (zhx s k m) a b)):=by
 obtain ⟨f1,f2,f3,f4,f5⟩:=hf;have hk':k<s.queue.length:=(zy9.1 hk).1;refine zan mixed Tryz.func137 zz5 [1000,1001,1002,1003,1004,1005,1006,1007,1008,1009] zbi ?_;(conv=>whnf);refine znk.go (zw ?_);refine zaj hk rfl (zw ?_);by_cases c1:m.mid<0
 . have f5:=f5 c1
   obtain ⟨v,hv⟩:∃ v,s.mids[zif s m]?=some v:=⟨_,zy3 f5⟩
   have hmo:zcd s m=v:=by rw [zcd,zy1 c1,hv];rfl
   have hms:zdp s m=s.mids.set (zif s m) (W (v+1)):=by rw [zdp,zy1 c1,setAt,hv]
   refine sT ?_;refine zaj hk rfl (zw ?_)
   repeat refine sG ?_
   refine zaj hk rfl (zw ?_)
   repeat refine sG ?_
   cases c2:m.message.ordered with
   | true =>
    have hat:zif s m=m.message.stream.toNat:=by rw [zif,c2];simp
    conv=>whnf
    repeat refine sG ?_
    exact yy35
   | false =>
    have hat:zif s m=(m.message.stream+s.config.streams).toNat:=by rw [zif,c2];simp
    conv=>whnf
    repeat refine sG ?_
    refine sF ?_;exact yy35
 . refine sN ?_
   repeat refine sG ?_
   refine zaj hk rfl (zw ?_);have hmo:zcd s m=m.mid:=by rw [zcd,zy0 c1]
   have hms:zdp s m=s.mids:=by rw [zdp,zy0 c1]
   (exact zdc (zhf []) zz24)
end Snd
end Go.HL
