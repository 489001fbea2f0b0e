/- Walks, contracts and laws of the law's functions: part 3. No condition. -/
import Derived.Test.YticmofoeecjnhaaGreatQEb
import Derived.Test.YticmofoeecjnhaaGreatRows
import Derived.Test.YticmofoeecjnhaaGreatProg
open Go.Proofs
set_option maxHeartbeats 32000000
set_option maxRecDepth 100000
set_option linter.unusedSimpArgs false
theorem yy43 {P:Prop} (h:P:=by
 have hre:ren []=zro:=by funext i;rfl
 refine ⟨_,.zgk (B:=[]) (F:=F) (us:=us) (ms:=args.map fun _=>true) (args1:=a) (args':=a) (H':=zad) (r':=r') (H'':=lk .free L'')
  ⟨ybm (hv.loc H (fun _ _=>rfl) _ ⟨rfl,rfl⟩),h1,by rw [hre];exact hv.noid,by rw [hre];exact zjl a hv.noid,fun _=>.inl rfl,by simp,by simp,by simp,zpj h6,zfb h7.1,zfb h7.2,zox h8,h9,rfl,by rw [ydb];rfl⟩,h10⟩):P:=h
theorem yy87 {P:Prop} (h:P:=by
 simp only [Cell.okWide,Cell.ok,hu] at hok;obtain ⟨b,rfl,_⟩:=h2;cases v<;>try exact hok.elim
 exact one rfl rfl):P:=h
theorem yy51 {P:Prop} (h:P:=by
 refine zao [(1000,some 1000)] rfl rfl ⟨rfl,trivial⟩ rfl rfl ⟨⟨rfl,.inl ⟨1000,rfl,rfl⟩⟩,trivial⟩):P:=h
theorem yy113 {P:Prop} (h:P:=by
 refine sN ?_;refine zao [(1000,some 1000)] rfl rfl ⟨rfl,trivial⟩ rfl rfl ⟨⟨rfl,.inl ⟨1000,rfl,?_⟩⟩,trivial⟩;exact zar (by rw [hL',hmrg,gw];simp)):P:=h
theorem yy128 {P:Prop} (h:P:=by
 try refine sG ?_
 exact ⟨⟨(i,(i+j) / 2),g1,by dsimp only;omega,by dsimp only;omega⟩,(zdj [(1000,some 1000)]),by dsimp only;omega⟩):P:=h
theorem yy138 {P:Prop} (h:P:=by
 try refine sG ?_
 refine sF ?_;exact ⟨⟨((i+j) / 2+1,j),c2,g2,g3⟩,(zcb [(1000,some 1000)] zz2),by dsimp only;omega⟩):P:=h
theorem yy5 {P:Prop} (h:P:=by
 (conv=>whnf);refine zaf (fun h=>?_) (fun h=>?_)
 . have hlt:k<q.length:=by simpa using h
   (conv=>whnf);refine zcc (r:=(q[k]).row) zz5 zz112 ?_;(conv=>whnf);refine zgb (zw ?_);refine ⟨_,hg q[k],rfl,zw ?_⟩;rw [zy18 hlt] at hi;simp only [zch] at hi;refine zaf (fun h=>?_) (fun h=>?_)
   . conv=>whnf
     rw [zy1 h] at hi;rw [<- hi]
   . conv=>whnf
     rw [zy0 (by rw [h];decide)] at hi;refine zaq (zbu zz0 zz0) ?_;(conv=>whnf);exact ⟨⟨k+1,hlt,hi⟩,(zbi []),by dsimp only;omega⟩
 . conv=>whnf
   have hge:q.length<=k:=by simpa using h
   rw [zy19 hge] at hi;rw [<- hi];rfl):P:=h
theorem yy19 {P:Prop} (h:P:=by
 (conv=>whnf);refine zao [(0,some 7)] rfl rfl trivial rfl rfl ⟨⟨rfl,.inl ⟨7,rfl,?_⟩⟩,trivial⟩
 rfl):P:=h
theorem yy24 {P:Prop} (h:P:=by
 refine zao [(0,none)] rfl rfl trivial rfl rfl ⟨⟨rfl,.inr ⟨rfl,hn c⟩⟩,trivial⟩):P:=h
theorem yy100 {P:Prop} (h:P:=by
 conv=>whnf
 try refine sG ?_
 refine sF ?_;refine ⟨⟨((A++[v],B),K,G++[v]),by rw [h];simp,by rw [zy42,<- hK];simp [hv],by simp,by simp;omega⟩,(zcb [(1000,some 1000)] zz23),by simp⟩):P:=h
theorem yy111 {P:Prop} (h:P:=by
 rw [h1];(conv=>whnf)
 try refine sG ?_
 refine zao [(0,some 1000),(1000,some 1000)] rfl rfl ⟨rfl,trivial⟩ rfl rfl ⟨rfl,⟨rfl,.inl ⟨1000,rfl,rfl⟩⟩,trivial⟩):P:=h
theorem yy17 {P:Prop} (h:P:=by
 (conv=>whnf);refine ⟨{k:Nat // k<=ps.length/\zeb k (ps.drop k)=zeb 0 ps},fun k=>hs 17 [(5,.p (.sl 7 (ps.map Path.row))),(6,i64 (ps.map Path.row).length),(7,i64 k.1)] [],fun k=>ps.length-k.1,⟨0,by simp⟩,?_,?_⟩
 . exact zcl [] rfl rfl rfl rfl ⟨⟨rfl,rfl⟩,⟨rfl,rfl⟩,⟨rfl,rfl⟩,trivial⟩ trivial
 . rintro ⟨k,hk,hi⟩
   (conv=>whnf);refine zaf (fun h=>?_) (fun h=>?_)
   . have hlt:k<ps.length:=by simpa using h
     (conv=>whnf);refine zcc (r:=(ps[k]).row) zz5 zz112 ?_;(conv=>whnf);rw [zy18 hlt] at hi;simp only [zeb] at hi;refine zaf (fun h=>?_) (fun h=>?_)
     . conv=>whnf
       rw [zy1 (by simp only [zy43] at h;omega)] at hi;rw [hi]
     . conv=>whnf
       refine zaq (zbu zz3 zz3) ?_;(conv=>whnf);rw [zy0 (by simp only [zy28] at h;omega)] at hi;exact ⟨⟨k+1,hlt,hi⟩,zcl [] rfl rfl rfl rfl ⟨⟨rfl,rfl⟩,⟨rfl,rfl⟩,⟨rfl,by simp;rfl⟩,trivial⟩ trivial,by simp;omega⟩
   . conv=>whnf
     have hge:ps.length<=k:=by simpa using h
     rw [zy19 hge] at hi;rw [<- hi];rfl):P:=h
theorem yy65 {P:Prop} (h:P:=by
 (conv=>whnf);refine sF ?_;exact ⟨⟨(a++[s],b),zag h⟩,(zaz [(900,some 900)] zz41),by simp⟩):P:=h
theorem yy54 {P:Prop} (h:P:=by
 have hge:c.zas.length<=k:=by simpa using c1
 refine ⟨⟨⟩,zcl [(1,some 1),(900,some 900)] rfl rfl rfl rfl ⟨⟨rfl,rfl⟩,⟨rfl,rfl⟩,trivial⟩ ⟨⟨rfl,.inl ⟨1,rfl,rfl⟩⟩,⟨rfl,.inl ⟨900,rfl,?_⟩⟩,trivial⟩⟩;show zlw (zbt c.tag++zbt c.room++zcm (c.zas.take k))=zlw (body c);rw [body,zy0 k1,zy1 k2,zy37 hge]):P:=h
theorem yy57 {P:Prop} (h:P:=by
 have hge:c.zbr.length<=k:=by simpa using c1
 refine ⟨⟨⟩,zcl [(1,some 1),(900,some 900)] rfl rfl rfl rfl ⟨⟨rfl,rfl⟩,⟨rfl,rfl⟩,trivial⟩ ⟨⟨rfl,.inl ⟨1,rfl,rfl⟩⟩,⟨rfl,.inl ⟨900,rfl,?_⟩⟩,trivial⟩⟩;show zlw (zbt c.tag++skipBytes (c.zbr.take k))=zlw (body c);rw [body,zy0 k1,zy0 k2,zy37 hge]):P:=h
theorem yy73 {P:Prop} (h:P:=by
 have hlen:=yaf h;(conv=>whnf);refine zdo (zw ?_);refine zdo (zw ?_);refine zaa (c:=(2+((body c).map zcp).length)*1<=140737488355328) zz3 (zw ?_);show HV.tup [.p (.sl 1 ([zcp (by8 c.kind),zcp (by8 ((body c).map zcp).length)]++(body c).map zcp)),i64 0]=_;rw [zy2,h]
 rfl):P:=h
theorem yy88 {P:Prop} (h:P:=by
 exact zao [(1000,some 1000)] rfl rfl ⟨rfl,trivial⟩ rfl rfl ⟨⟨rfl,.inl ⟨1000,rfl,rfl⟩⟩,trivial⟩):P:=h
theorem yy42 {P:Prop} (h:P:=by
 (conv=>whnf);refine zaf (fun c5=>?_) (fun c5=>?_)
 . have c5:¬ w=0:=by simpa using c5
   rw [zy1 c5];(conv=>whnf)
   rfl
 . have c5:w=0:=by simpa using c5
   rw [zy0 (fun h=>h c5)];(conv=>whnf)
   rfl):P:=h
theorem yy48 {P:Prop} (h:P:=by
 have hbad:(zcz kind s).2=false:=by
  cases hok:ok with
  | false=>exact h.bad hok
  | true =>
   obtain ⟨i1,i2,i3,i4⟩:=h.good hok;exact xfh k1 k2 (.inr (.inl (by simp at i3;omega)))
 exact ⟨fun _=>⟨fun h2=>(by cases h2),fun _=>hbad,by simp [one,two] at hlen ⊢;omega⟩,fun _=>⟨fun h2=>(by cases h2),fun _=>hbad,by simp [one,two] at hlen ⊢;omega⟩⟩):P:=h
theorem yy116 {P:Prop} (h:P:=by
 show zai.live (.row _ 3 (acc.map zdw.row++[zdw.row ⟨A.1,D.1,B.1==1⟩]))=zai.live (.row _ 3 (List.map zdw.row (acc++[⟨A.1,D.1,B.1==1⟩])));rw [zy33]
 rfl):P:=h
theorem yy26 {P:Prop} (h:P:=by
 refine zaf (fun c3=>?_) (fun c3=>?_)
 . have c3:zdq c≠0:=by simpa using c3
   rw [zy1 c3] at hi;(conv=>whnf);rw [hi,zy1 c3]
   rfl
 have c3:zdq c=0:=by simpa using c3
 rw [zy0 (fun h=>h c3)] at hi;(conv=>whnf);refine zaa (c:=(((zcf (l.take k)).map zcp).length+((Chk.bytes c).map zcp).length)*1<=140737488355328) zz3 (zw ?_);refine sFm ?_;refine ⟨⟨k+1,hlt,hi⟩,zcl [(900,some 30)] rfl rfl rfl rfl ⟨⟨rfl,rfl⟩,⟨rfl,rfl⟩,⟨rfl,rfl⟩,⟨rfl,rfl⟩,⟨rfl,by simp;rfl⟩,trivial⟩ ⟨⟨rfl,.inl ⟨30,rfl,?_⟩⟩,trivial⟩,by dsimp only;omega⟩;show zai.live (.row _ 1 ((zcf (l.take k)).map zcp++(Chk.bytes c).map zcp))=zlw (zcf (l.take (k+1)));rw [hsucc,zlw,zy33]):P:=h
theorem yy45 {P:Prop} (h:P:=by
 rw [zy19 hge] at hi;have hi:zcw l=0:=hi;have ht:l.take k=l:=zy37 hge;have hab:=zgg l;(conv=>whnf);refine zaf (fun c3=>?_) (fun c3=>?_)
 . have c3:((zcf l).length:Int)>most:=by rw [ht] at c3;simpa using c3
   (conv=>whnf);rw [zy0 (fun h=>h hi),zy1 c3]
   rfl
 . have c3:¬ ((zcf l).length:Int)>most:=by rw [ht] at c3;simpa using c3
   (conv=>whnf);rw [zy0 (fun h=>h hi),zy0 c3,ht]):P:=h
theorem yy12 {P:Prop} (h:P:=by
 generalize parse b'=p at h1 h2 hn hg q1 q2 ⊢;obtain ⟨c,n,e⟩:=p;dsimp only at h1 h2 hn hg q1 q2;(conv=>whnf);refine zaf (fun c3=>?_) (fun c3=>?_)
 . have c3:e≠0:=by simpa using c3
   rw [zy1 c3] at h1;dsimp only at h1;have h4:=h3 (by rw [h1];exact c3);(conv=>whnf);rw [h4,h1]
   try rfl
 have c3:e=0:=by simpa using c3
 rw [zy0 (fun h=>h c3)] at h1 h2;have hn:=hn c3;obtain ⟨g1,g2,g3,g4⟩:=hg c3;(conv=>whnf);refine zaa (c:=((acc.map Chunk.row).length+1)*128<=140737488355328) zz3 (zw ?_);refine zaa ⟨g2,by rw [zy2];exact g3,by omega⟩ (zw ?_);refine zfh (l:=b') zz109 ?_;(conv=>whnf)
 try (refine zaw ?_ ?_;· kernel_rfl)
 try conv=>whnf
 refine ⟨⟨(g,b'.drop n.toNat,acc++[c]),by dsimp only;rw [zy38];omega,by dsimp only;rw [zy38,zy8];simp;omega,?_,?_,h3⟩,zcl [(900,some 26)] rfl rfl rfl rfl ⟨⟨rfl,rfl⟩,⟨rfl,rfl⟩,trivial⟩ ⟨⟨rfl,.inl ⟨26,rfl,?_⟩⟩,trivial⟩,by dsimp only;rw [zy38];omega⟩
 . dsimp only
   rw [h1];split
   . rfl
   . rename_i h;exact (Decidable.of_not_not h).symm
 . dsimp only
   intro h;rw [zy0 (fun h'=>h' h)] at h2;have:=h2 rfl;rw [this];simp
 . show zai.live (.row _ 11 (acc.map Chunk.row++[c.row]))=zai.live (.row _ 11 ((acc++[c]).map Chunk.row))
   rw [zy33]
   rfl):P:=h
theorem yy105 {P:Prop} (h:P:=by
 have h4:zfj f b'=([],0):=by
  cases f with
  | zero=>rfl
  | succ f=>rw [zfj,zy1 c2]
 rw [h4] at h1 h2;have h5:=h2 rfl;rw [zy4] at h5;have h1:R.2=0:=h1;(conv=>whnf);rw [h5,h1]
 try rfl):P:=h
namespace Go.HL
abbrev i64 (n:Int):HV:=.p (.v (.int .i64 n))
abbrev W (z:Int):Int:=IntKind.i64.wrap z
theorem zaf {b:Bool} {A B:Prop} (h1:b=true->A) (h2:b=false->B):hif b A B:=by cases b<;>simp_all [hif]
theorem zac {b:Bool} {A B:Prop} (h:b=true) (ha:A):hif b A B:=by subst h;exact ha
theorem zab {b:Bool} {A B:Prop} (h:b=false) (hb:B):hif b A B:=by subst h;exact hb
theorem zce {k:IntKind} {z:Int} {K:Int->Prop} (h:K (k.wrap z)):znp k z K:=⟨_,rfl,h⟩
theorem zaq {k:IntKind} {z:Int} {K:Int->Prop} (hz:k.wrap z=z) (h:K z):znp k z K:=⟨z,hz.symm,h⟩
theorem zaa {c k:Prop} (h:c) (hk:k):znv c k:=⟨h,hk⟩
theorem zaw {P:Program} {s0:HS} {all:Array Oper} {labs:List Lab} {k:Prop} (h:zjj all labs=true) (hk:k):ypp P s0 all labs k:=⟨.inl h,hk⟩
theorem zjg (ex:List Nat) {P:Program} {s0:HS} {all:Array Oper} {labs:List Lab} {k:Prop} (h:zkf ex all labs=true) (h2:xck (zzr P s0 all.toList labs) ex) (hk:k):ypp P s0 all labs k:=⟨.inr ⟨ex,h,h2⟩,hk⟩
theorem zcc {rows:List (List PV)} {i:Int} {K:List PV->Prop} {r:List PV} (h0:0<=i) (h:rows[i.toNat]?=some r) (hk:K r):zpn rows i K:=⟨r,h0,h,hk⟩
theorem zjf {rows:List (List PV)} {K:List UInt8->Prop} {bs:List UInt8} (h:rows=bs.map zcp) (hk:K bs):yml rows K:=⟨bs,h,hk⟩
theorem zbu {z:Int} (h1:-9223372036854775808<=z) (h2:z<=9223372036854775807):W z=z:=by
 unfold W IntKind.wrap;simp [IntKind.bits,IntKind.signed];omega
section
variable {P:Program}
theorem zbg {f:FuncId} {args:List HV} {d:Nat} {H:Nat->zai} {K:Res->Prop} (h:zgq H args fun a us=>zjq (normArgs P (ybr P f) a) fun a=>∃ r,zan P f a zad r zad/\ygy r=true/\K ⟨r,[],us.map (·.1)⟩) :
 yep (CR P) f args d H K:=by
 obtain ⟨a,us,h,hv⟩:=zef _ h;rw [zgh] at h;obtain ⟨r,h1,h2,h3⟩:=h;replace h1:=h1.args fun _ _ _ _ hx=>hx.normArgs _
 exact ⟨_,.lend ⟨hv.loc H (fun _ _=>rfl) _ ⟨rfl,rfl⟩,h1,h2,rfl,rfl⟩,h3⟩
theorem ybm {H:Nat->zai}:∀ {xs:List HV} {K:List HV->List (Nat×zai)->Prop},zgq H xs K->zlq H (xs.map fun _=>true) xs K
 | [],K,h=>by simpa only [zy114,zlq,zgq] using h
 | x::xs,K,h=>by
  simp only [zy35,zlq];simp only [zgq] at h;obtain ⟨y,u,h1,hv⟩:=zkh x h;exact hv.loc H (fun _ _=>rfl) _ (ybm h1)
theorem zdc {f:FuncId} {args:List HV} {d:Nat} {H:Nat->zai} {K:Res->Prop} (h:zgq H args fun a us=>zjq (normArgs P (ybr P f) a) fun a=>∃ r,zan P f a zad r zad/\zjc zro r=true/\K ⟨r,us,[]⟩) :
 yep (CR P) f args d H K:=by
 obtain ⟨a,us,h,hv⟩:=zef _ h;rw [zgh] at h;obtain ⟨r,h1,h2,h3⟩:=h;replace h1:=h1.args fun _ _ _ _ hx=>hx.normArgs _
 have hre:ren []=zro:=by funext i;rfl
 refine ⟨_,.zgk (B:=[]) (F:=[]) (us:=us) (ms:=args.map fun _=>true) (args1:=a) (args':=a) (H':=zad) (r':=r) (H'':=zad)
  ⟨ybm (hv.loc H (fun _ _=>rfl) _ ⟨rfl,rfl⟩),h1,by rw [hre];exact hv.noid,by rw [hre];exact zjl a hv.noid,fun _=>.inl rfl,by simp,by simp,by simp,by simp,by simp,by simp,by simp,by
   show zjc (ren []) r=true;rw [hre];exact h2,by show r=rn (ren []) r;rw [hre];exact (ybv r h2).symm,by simp⟩,h3⟩
end
def ywk (σ:Ren) (s:HS):List (Nat×HV)->Prop
 | []=>True
 | (i,x)::r=>(zjc σ x=true/\rn σ x=s.slot i)/\ywk σ s r
def ydh (σ:Ren) (s:HS):List (Nat×zai)->Prop
 | []=>True
 | (id,b)::r=>(match b with
  | .free=>False
  | .dead=>(σ id).isSome=true
  | .live b=>zol σ b=true/\((∃ j,σ id=some (some j)/\s.heap j=.live (rnB σ b))\/(σ id=some none/\xgf b))
  | .ro b=>zol σ b=true/\∃ j,σ id=some (some j)/\(s.heap j=.live (rnB σ b)\/s.heap j=.ro (rnB σ b)))/\ydh σ s r
def zpy (σ:Ren):List Nat->Prop
 | []=>True
 | i::r=>σ i=some (some i)/\zpy σ r
def xav:List (Nat×Option Nat)->List Nat
 | []=>[]
 | (_,some j)::r=>j::xav r
 | (_,none)::r=>xav r
def zev:List Nat->Bool
 | []=>true
 | x::r=>!(r.any (Nat.beq x))&&zev r
def zhy (L:List (Nat×zai)):List (Nat×Option Nat)->Bool
 | []=>true
 | (i,_)::r=>L.any (fun p=>Nat.beq i p.1)&&zhy L r
theorem ybj {α:Type} {d:α}:∀ {l:List (Nat×α)} {i:Nat},lk d l i=d\/∃ x,(i,x)∈l/\lk d l i=x
 | [],i=>.inl rfl
 | (j,x)::r,i=>by
  simp only [lk];cases hb:Nat.beq i j with
  | true=>have:=zy7 hb;subst this;exact .inr ⟨x,by simp,rfl⟩
  | false =>
   rcases ybj (d:=d) (l:=r) (i:=i) with h | ⟨y,h1,h2⟩
   . exact .inl h
   . exact .inr ⟨y,by simp [h1],h2⟩
theorem yoh {σ:Ren} {s:HS}:∀ {l:List (Nat×HV)} {i:Nat} {x:HV},ywk σ s l->(i,x)∈l->zjc σ x=true/\rn σ x=s.slot i
 | (j,y)::r,i,x,h,hm=>by
  simp only [ywk] at h;cases hm with
  | head=>exact h.1
  | tail _ hm=>exact yoh h.2 hm
theorem zvi {l:List (Nat×Option Nat)} {i:Nat} {o:Option Nat} (h:lkN l i=some o):(i,o)∈l:=by
 induction l with
 | nil=>cases h
 | cons p l ih =>
  obtain ⟨a,b⟩:=p;simp only [lkN] at h;cases hb:Nat.beq i a with
  | true=>rw [hb] at h;cases h;have:=zy7 hb;subst this;simp
  | false=>rw [hb] at h;simp [ih h]
theorem zyn {L:List (Nat×zai)}:∀ {l:List (Nat×Option Nat)} {i:Nat} {o:Option Nat},zhy L l=true->(i,o)∈l->∃ b,(i,b)∈L
 | (j,y)::r,i,o,h,hm=>by
  simp only [zhy,zy16] at h;cases hm with
  | head =>
   obtain ⟨p,hp,hb⟩:=zy98.1 h.1;have:=zy7 hb;subst this;exact ⟨p.2,hp⟩
  | tail _ hm=>exact zyn h.2 hm
theorem yuk {α:Type} {d:α}:∀ {l:List (Nat×α)} {i:Nat},(∀ x,(i,x)∉l)->lk d l i=d
 | [],i,_=>rfl
 | (j,x)::r,i,h=>by
  simp only [lk];cases hb:Nat.beq i j with
  | true=>have:=zy7 hb;subst this;exact absurd zz5 (h x)
  | false=>exact yuk fun y hy=>h y zz121
theorem ymr {σ:Ren} {s:HS}:∀ {l:List (Nat×zai)} {i:Nat} {x:zai},ydh σ s l->(i,x)∈l->ydh σ s [(i,x)]
 | (j,y)::r,i,x,h,hm=>by
  simp only [ydh] at h;cases hm with
  | head=>exact ⟨h.1,trivial⟩
  | tail _ hm=>exact ymr h.2 hm
theorem ycu:∀ {l:List (Nat×Option Nat)},zev (xav l)=true->∀ {i i' j:Nat},(i,some j)∈l->(i',some j)∈l->i=i'
 | [],_,i,i',j,h,_=>by cases h
 | (a,none)::r,hn,i,i',j,h,h'=>by
  cases h with
  | tail _ h=>cases h' with
   | tail _ h'=>exact ycu (l:=r) hn h h'
 | (a,some b)::r,hn,i,i',j,h,h'=>by
  simp only [xav,zev,zy16,zy44] at hn;have hin:∀ {r:List (Nat×Option Nat)} {i j:Nat},(i,some j)∈r->j∈xav r:=by
   intro r
   induction r with
   | nil=>intro i j h;cases h
   | cons p r ih =>
    intro i j h;obtain ⟨a,o⟩:=p;cases h with
    | head=>simp [xav]
    | tail _ h=>cases o<;>simp [xav,ih h]
  have hno:∀ {i:Nat},(i,some b)∉r:=by
   intro i hi;have:=zy146.1 hn.1 b (hin hi);simp at this
  cases h with
  | head=>cases h' with
   | head=>rfl
   | tail _ h'=>exact absurd h' hno
  | tail _ h=>cases h' with
   | head=>exact absurd h hno
   | tail _ h'=>exact ycu hn.2 h h'
theorem ymo {s:HS} {heap:List (Nat×zai)} {pins:List Nat} (l:List (Nat×Option Nat)) (h1:zhy heap l=true) (_:zpy (lkN l) pins) (h5:ydh (lkN l) s heap):∀ id,match lk zai.free heap id with
 | .free=>lkN l id=none
 | .dead=>True
 | .live b=>zol (lkN l) b=true/\((∃ j,lkN l id=some (some j)/\s.heap j=.live (rnB (lkN l) b))\/(lkN l id=some none/\xgf b))
 | .ro b=>zol (lkN l) b=true/\∃ j,lkN l id=some (some j)/\(s.heap j=.live (rnB (lkN l) b)\/s.heap j=.ro (rnB (lkN l) b)):=by
 intro id;by_cases hm:∃ x,(id,x)∈heap
 . rcases ybj (d:=zai.free) (l:=heap) (i:=id) with h | ⟨x,hx,h⟩
   . exfalso
     obtain ⟨x,hx⟩:=hm;have gen:∀ {l:List (Nat×zai)} {σ:Ren},ydh σ s l->(∃ x,(id,x)∈l)->lk .free l id≠.free:=by
      intro l
      induction l with
      | nil=>intro σ _ ⟨x,hx⟩;cases hx
      | cons p l ih =>
       obtain ⟨a,y⟩:=p;intro σ h ⟨x,hx⟩;simp only [lk];cases hb:Nat.beq id a with
       | true =>
        show y≠.free;intro hy;subst hy;exact h.1
       | false =>
        refine ih h.2 ?_;cases hx with
        | head=>simp at hb
        | tail _ hx=>exact ⟨x,hx⟩
     exact gen h5 ⟨x,hx⟩ h
   . rw [h]
     have:=(ymr h5 hx).1;cases x<;>simp only at this ⊢
     . exact this
     . exact this
 . rw [yuk fun x hx=>hm ⟨x,hx⟩]
   show lkN l id=none;cases ho:lkN l id with
   | none=>rfl
   | some o=>exact absurd (zyn h1 (zvi ho)) hm
theorem ymp {pins:List Nat} (l:List (Nat×Option Nat)) (h3:zpy (lkN l) pins):∀ id∈pins,lkN l id=some (some id):=by
 intro id hid;have gen:∀ {r:List Nat},zpy (lkN l) r->id∈r->lkN l id=some (some id):=by
  intro r
  induction r with
  | nil=>intro _ h;cases h
  | cons a r ih =>
   intro h hm;simp only [zpy] at h;cases hm with
   | head=>exact h.1
   | tail _ hm=>exact ih h.2 hm
 exact gen h3 hid
def ydu (heap:List (Nat×zai)) (i:Nat):Bool:=match lk .free heap i with
 | .dead=>true
 | _=>false
def zlu (heap:List (Nat×zai)):List (Nat×Option Nat)->List Nat
 | []=>[]
 | (i,some j)::r=>bif ydu heap i then zlu heap r else j::zlu heap r
 | (_,none)::r=>zlu heap r
theorem yoo {heap:List (Nat×zai)}:∀ (l:List (Nat×Option Nat)),zlu heap l=xav (l.filter fun p=>!ydu heap p.1)
 | []=>rfl
 | (i,o)::r=>by
  cases hd:ydu heap i<;>cases o<;>simp [zlu,xav,zy49,hd,yoo r]
theorem yia {heap:List (Nat×zai)} {l:List (Nat×Option Nat)} (h:zev (zlu heap l)=true) {i i' j:Nat} (h1:(i,some j)∈l) (h2:(i',some j)∈l) (d1:lk .free heap i≠.dead) (d2:lk .free heap i'≠.dead):i=i':=by
 rw [yoo] at h;have hd:∀ k,lk .free heap k≠.dead->ydu heap k=false:=by
  intro k hk;unfold ydu;split
  . rename_i he;exact absurd he hk
  . rfl
 exact ycu h (zy138.2 ⟨h1,by simp [hd i d1]⟩) (zy138.2 ⟨h2,by simp [hd i' d2]⟩)
theorem yto {s:HS} {pins:List Nat} {n:Nat} {slots:List (Nat×HV)} {heap:List (Nat×zai)} (l:List (Nat×Option Nat)) (hn:n=s.n) (hp:pins=s.pins) (h1:zhy heap l=true) (h2:zev (zlu heap l)=true)
 (h3:zpy (lkN l) pins) (h4:ywk (lkN l) s slots) (h5:ydh (lkN l) s heap):xgx s (hsP pins n slots heap):=by
 refine ⟨hn,hp,lkN l,fun i=>?_,ymo l h1 h3 h5,fun id id' b j hb hd hj hj'=>yia h2 (zvi hj) (zvi hj') zz113 hd,fun id hid=>ymp l h3 id (hp ▸ hid)⟩;rcases ybj (d:=HV.any) (l:=slots) (i:=i) with h | ⟨x,hx,h⟩
 . exact .inl h
 . right
   show zjc (lkN l) (lk .any slots i)=true/\rn (lkN l) (lk .any slots i)=s.slot i;rw [h];exact yoh h4 hx
theorem ytp {s:HS} {pins:List Nat} {n:Nat} {slots:List (Nat×HV)} {heap:List (Nat×zai)} (l:List (Nat×Option Nat)) (hn:n=s.n) (hp:pins=s.pins) (h1:zhy heap l=true) (h2:zev (zlu heap l)=true)
 (h3:zpy (lkN l) pins) (h4:ywk (lkN l) s slots) (h5:ydh (lkN l) s heap):HLe s (hsP pins n slots heap):=⟨[],by rw [ytg];exact yto l hn hp h1 h2 h3 h4 h5⟩
theorem zcl {s:HS} {n:Nat} {slots:List (Nat×HV)} {heap:List (Nat×zai)} (l:List (Nat×Option Nat)) (hn:n=s.n) (hp:[]=s.pins) (h1:zhy heap l=true) (h2:zev (zlu heap l)=true)
 (h4:ywk (lkN l) s slots) (h5:ydh (lkN l) s heap):HLe s (hs n slots heap):=ytp l hn hp h1 h2 trivial h4 h5
end Go.HL
namespace Go.HL
section
variable {P:Program}
def ytd (H:Nat->zai):List (Nat×Nat)->Prop
 | []=>True
 | p::r=>(Nat.blt p.1 pin=true/\H p.2=.free)/\ytd H r
def xde (σ:Ren) (H' H:Nat->zai):List (Nat×Nat)->Prop
 | []=>True
 | p::r=>(Nat.ble pin p.1=true/\∃ b,zol σ b=true/\((H' p.1=.live b/\H p.2=.live (rnB σ b))\/(H' p.1=.ro b/\H p.2=.ro (rnB σ b))))/\xde σ H' H r
def you (σ:Ren) (H'':Nat->zai):List (Nat×Nat)->Bool
 | []=>true
 | p::r=>xeh σ (H'' p.1)&&you σ H'' r
def xfe (σ:Ren) (H'':Nat->zai):List (Nat×Nat)->List (Nat×zai)
 | []=>[]
 | p::r=>(p.2,rnS σ (H'' p.1))::xfe σ H'' r
def yze (B:List (Nat×Nat)):List (Nat×zai)->Bool
 | []=>true
 | p::r=>B.any (fun q=>Nat.beq q.1 p.1)&&yze B r
theorem ydb {σ:Ren} {H'':Nat->zai}:∀ {L:List (Nat×Nat)},xfe σ H'' L=L.map fun p=>(p.2,rnS σ (H'' p.1))
 | []=>rfl
 | p::r=>by simp only [xfe,zy35,ydb]
theorem zpj {H:Nat->zai}:∀ {L:List (Nat×Nat)},ytd H L->∀ p∈L,p.1<pin/\H p.2=.free
 | q::r,h,p,hp=>by
  rcases zy13.1 hp with rfl | hp
  . exact ⟨by have:=h.1.1;simp only [Nat.blt,Nat.ble_eq] at this;exact this,h.1.2⟩
  . exact zpj h.2 p hp
theorem yeo {σ:Ren} {H' H:Nat->zai}:∀ {L:List (Nat×Nat)},xde σ H' H L->∀ p∈L,pin<=p.1/\∃ b,zol σ b=true/\((H' p.1=.live b/\H p.2=.live (rnB σ b))\/(H' p.1=.ro b/\H p.2=.ro (rnB σ b)))
 | q::r,h,p,hp=>by
  rcases zy13.1 hp with rfl | hp
  . exact ⟨zy39 h.1.1,h.1.2⟩
  . exact yeo h.2 p hp
theorem zox {σ:Ren} {H'':Nat->zai}:∀ {L:List (Nat×Nat)},you σ H'' L=true->∀ p∈L,xeh σ (H'' p.1)=true
 | q::r,h,p,hp=>by
  simp only [you,zy16] at h;rcases zy13.1 hp with rfl | hp
  . exact h.1
  . exact zox h.2 p hp
theorem zfb:∀ {l:List Nat},zev l=true->l.Nodup
 | [],_=>by simp
 | x::r,h=>by
  simp only [zev,zy16,zy44] at h;refine zy128.2 ⟨fun hm=>?_,zfb h.2⟩;have:=zy146.1 h.1 x hm;simp at this
theorem zym {B:List (Nat×Nat)}:∀ {L:List (Nat×zai)},yze B L=true->∀ i,lk .free L i=.free\/∃ p∈B,p.1=i
 | [],_,i=>.inl rfl
 | q::r,h,i=>by
  simp only [yze,zy16] at h;obtain ⟨a,b⟩:=q;simp only [lk];cases hb:Nat.beq i a with
  | true =>
   have:=zy7 hb;subst this;obtain ⟨p,hp,he⟩:=zy98.1 h.1;exact .inr ⟨p,hp,zy7 he⟩
  | false=>exact zym h.2 i
def xhr (P:Program) (f:FuncId) (H:Nat->zai) (B F:List (Nat×Nat)) (a1:List HV) (us:List (Nat×zai)) (K:Res->Prop):Prop :=
 ∃ args' L' r' L'',zan P f args' (lk .free L') r' (lk .free L'')/\(zom (ren B) args'=true/\rnL (ren B) args'=a1/\yze B L'=true/\xde (ren B) (lk .free L') (zek H us) B/\ytd H F /\
  (zev (B.map (·.1))&&zev (B.map (·.2))&&zev (F.map (·.1))&&zev (F.map (·.2)))=true/\you (ren (B++F)) (lk .free L'') (B++F)=true/\zjc (ren (B++F)) r'=true) /\
  K ⟨rn (ren (B++F)) r',us++xfe (ren (B++F)) (lk .free L'') (B++F),[]⟩
theorem zae (ms:List Bool) (B F:List (Nat×Nat)) {f:FuncId} {args:List HV} {d:Nat} {H:Nat->zai} {K:Res->Prop} (h:zlq H ms args fun a us=>zjq a fun a=>xhr P f H B F a us K) :
 yep (CR P) f args d H K:=by
 have h:=zii _ _ h;obtain ⟨a,us,hg,hv⟩:=h;rw [zgh] at hg;obtain ⟨args',L',r',L'',h1,⟨h2,h3,h4,h5,h6,h7,h8,h9⟩,h10⟩:=hg;simp only [zy16] at h7;refine ⟨_,.zgk (us:=us) (ms:=ms) (args1:=a) (B:=B) (F:=F) (args':=args') (H':=lk .free L') (r':=r') (H'':=lk .free L'')
  ⟨hv.loc H (fun _ _=>rfl) _ ⟨rfl,rfl⟩,h1,h2,h3,zym h4,yeo h5,zfb h7.1.1.1,zfb h7.1.1.2,zpj h6,zfb h7.1.2,zfb h7.2,zox h8,h9,rfl,by rw [ydb]⟩,h10⟩
theorem zat (F:List (Nat×Nat)) {f:FuncId} {args:List HV} {d:Nat} {H:Nat->zai} {K:Res->Prop}
 (h:zgq H args fun a us=>zjq (normArgs P (ybr P f) a) fun a=>∃ r' L'',zan P f a zad r' (lk .free L'') /\
  (ytd H F/\(zev (F.map (·.1))&&zev (F.map (·.2)))=true/\you (ren F) (lk .free L'') F=true/\zjc (ren F) r'=true)/\K ⟨rn (ren F) r',us++xfe (ren F) (lk .free L'') F,[]⟩) :
 yep (CR P) f args d H K:=by
 obtain ⟨a,us,h,hv⟩:=zef _ h;rw [zgh] at h;obtain ⟨r',L'',h1,⟨h6,h7,h8,h9⟩,h10⟩:=h;simp only [zy16] at h7;replace h1:=h1.args fun _ _ _ _ hx=>hx.normArgs _
 exact yy43
theorem xdh (fz:List Nat) {pins:List Nat} {v r:HV} {H2:Nat->zai} {heap:List (Nat×zai)} (l:List (Nat×Option Nat)) (h1:zhy heap l=true) (h2:zev (zlu heap l)=true) (h3:zpy (lkN l) pins)
 (h4:zjc (lkN l) r=true) (h5:rn (lkN l) r=fzV fz H2 v) (h6:ydh (lkN l) (fzS fz (zth [v] 1 H2 pins)) heap):xci pins v H2 r (lk .free heap):=by
 refine ⟨fz,rfl,rfl,lkN l,fun i=>?_,?_,?_,?_⟩
 . cases i with
   | zero=>exact .inr ⟨h4,h5⟩
   | succ i =>
    refine .inr ⟨?_,?_⟩
    . show zjc (lkN l) ((nth [r] (i+1)).getD .und)=true
      simp [nth,zjc]
    . show rn (lkN l) ((nth [r] (i+1)).getD .und)=fzV fz H2 ((nth [v] (i+1)).getD .und)
      simp [nth,rn,fzV]
 . exact ymo l h1 h3 h6
 . intro id id' b j hb hd hj hj'
   exact yia h2 (zvi hj) (zvi hj') zz113 hd
 . exact ymp l h3
theorem zao {pins:List Nat} {v r:HV} {H2:Nat->zai} {heap:List (Nat×zai)} (l:List (Nat×Option Nat)) (h1:zhy heap l=true) (h2:zev (zlu heap l)=true) (h3:zpy (lkN l) pins)
 (h4:zjc (lkN l) r=true) (h5:rn (lkN l) r=v) (h6:ydh (lkN l) (zth [v] 1 H2 pins) heap):xci pins v H2 r (lk .free heap) :=
 xdh [] l h1 h2 h3 h4 (by rw [yji];exact h5) (by rw [ytg];exact h6)
end
end Go.HL
namespace Go.HL
section
variable {P:Program}
theorem zgb {f:FuncId} {args:List HV} {d:Nat} {H:Nat->zai} {K:Res->Prop} (h:zgq H args fun a us=>∃ r,zan P f a zad r zad/\ygy r=true/\K ⟨r,[],us.map (·.1)⟩) :
 yep (CR P) f args d H K:=by
 obtain ⟨a,us,⟨r,h1,h2,h3⟩,hv⟩:=zef _ h;exact ⟨_,.lend ⟨hv.loc H (fun _ _=>rfl) _ ⟨rfl,rfl⟩,h1,h2,rfl,rfl⟩,h3⟩
def zch {α:Type} (p:α->Bool) (k:Nat):List α->Int
 | []=>-1
 | x::r=>if p x then k else zch p (k+1) r
theorem yrw {k n:Nat} (h:k<n) (hn:n<2 ^ 62):W ((k:Int)+1)=((k+1:Nat):Int):=by rw [zbu (by omega) (by omega)];push_cast;rfl
end
end Go.HL
namespace Go.HL
section
variable {P:Program}
theorem ypn (F:List (Nat×Nat)) {f:FuncId} {args:List HV} {d:Nat} {H:Nat->zai} {K:Res->Prop}
 (h:zgq H args fun a us=>∃ r' L'',zan P f a zad r' (lk .free L'') /\
  (ytd H F/\(zev (F.map (·.1))&&zev (F.map (·.2)))=true/\you (ren F) (lk .free L'') F=true/\zjc (ren F) r'=true)/\K ⟨rn (ren F) r',us++xfe (ren F) (lk .free L'') F,[]⟩) :
 yep (CR P) f args d H K:=by
 obtain ⟨a,us,h,hv⟩:=zef _ h;obtain ⟨r',L'',h1,⟨h6,h7,h8,h9⟩,h10⟩:=h;simp only [zy16] at h7;exact yy43
end
end Go.HL
namespace Go.HL
theorem zbq:∀ {L:List (Nat×zai)} (i:Nat),lk .free L i=.free\/i∈L.map (·.1)
 | [],i=>.inl rfl
 | (a,b)::r,i=>by
  simp only [lk,zy35,zy13];cases hb:Nat.beq i a with
  | true=>exact .inr (.inl (zy7 hb))
  | false =>
   rcases zbq (L:=r) i with h | h
   . exact .inl h
   . exact .inr (.inr h)
end Go.HL
namespace Go.HL
open Go.RowKit
mutual
def PV.bulk:PV->Nat
 | .v (.string s)=>s.size+1
 | .v _=>1
 | .sl _ rows=>zks rows+1
def zgy:List PV->Nat
 | []=>0
 | x::r=>x.bulk+zgy r
def zks:List (List PV)->Nat
 | []=>0
 | r::rs=>zgy r+zks rs
end
mutual
def dwb {H:Type}:DataW H->Nat
 | .lit (.string bytes)=>bytes.length+1
 | .lit _=>1
 | .nil=>1
 | .ptr d=>dwb d+1
 | .slice elems spare=>zsm elems+zsm spare+1
 | .agg parts=>zsm parts+1
 | .iface _ d=>dwb d+1
 | .map entries=>xfp entries+1
 | .held _=>1
def zsm {H:Type}:List (DataW H)->Nat
 | []=>0
 | d::r=>dwb d+zsm r
def xfp {H:Type}:List (Lit×DataW H)->Nat
 | []=>0
 | x::r=>xcx x+xfp r
def xcx {H:Type}:Lit×DataW H->Nat
 | (.string bytes,d)=>bytes.length+dwb d+1
 | (_,d)=>dwb d+1
end
def yhy (P:Program) (S:TypeId->Bool):Nat->Nat->List Field->Bool
 | off,tot,[]=>Nat.beq off tot
 | off,tot,f::fs=>Nat.beq f.offset off&&S f.type&&yhy P S (off+P.cellsOf f.type) tot fs
def xau (P:Program):Nat->TypeId->Bool
 | 0,_=>false
 | n+1,t=>match P.underlying t with
  | some .bool=>true
  | some (.int _)=>true
  | some .string=>true
  | some (.slice e)=>xau P n e&&Nat.blt 0 (P.cellsOf e)
  | some (.struct fs)=>yhy P (xau P n) 0 (P.cellsOf t) fs.toList
  | _=>false
def xfb (P:Program) (S:TypeId->List PV->Prop):List Field->List PV->Prop
 | [],pvs=>pvs=[]
 | f::fs,pvs=>∃ a b,pvs=a++b/\a.length=P.cellsOf f.type/\S f.type a/\xfb P S fs b
def shp (P:Program):Nat->TypeId->List PV->Prop
 | 0,_,_=>False
 | n+1,t,pvs=>match P.underlying t with
  | some .bool=>∃ b,pvs=[.v (.bool b)]
  | some (.int k)=>∃ z,pvs=[.v (.int k z)]/\(Lit.int k z).wf=true
  | some .string=>∃ s,pvs=[.v (.string s)]/\s.size<=maxLen
  | some (.slice e)=>∃ rows,pvs=[.sl (P.cellsOf e) rows]/\∀ r∈rows,shp P n e r
  | some (.struct fs)=>xfb P (shp P n) fs.toList pvs
  | _=>False
section
variable {H:Type} {enc:TypeId×Value->H} {P:Program} {W:World} {base:Nat} {sp:Nat->Bool} {held:Bool}
abbrev RW (W:World):Nat->Prop:=fun b=>b<W.heap.size
theorem zxx {a:Addr} {n:Nat} {cs:List Value} (h:W.cells? base a n=some cs):cs.length=n/\(∀ k v,cs[k]?=some v->W.cell? (a.add k)=some v):=by
 unfold World.cells? at h;split at h
 . have hl:=mapM_some_length h
   refine ⟨by simpa using hl,fun k v hv=>?_⟩;have hk:k<n:=by
    have:=(zy9.1 hv).1
    simpa [hl] using this
   have:=mapM_some_get h k k (by rw [zy118 hk]);rw [this];exact hv
 . cases h
theorem xcu {b o:Nat} {v:Value} (h:W.cell? ⟨b,o,none⟩=some v):b<W.heap.size:=by
 unfold World.cell? at h;cases hb:W.heap[b]? with
 | none=>simp only [hb] at h;cases h
 | some x=>exact (zy71.1 hb).1
theorem zsk:∀ (a b:List PV),zgy (a++b)=zgy a+zgy b
 | [],b=>by simp [zgy]
 | x::a,b=>by simp [zgy,zsk a b];omega
theorem yib {fuel:Nat} {S:TypeId->Bool} {Sh:TypeId->List PV->Prop} {cs:List Value}
 (ih:∀ t cs d ps,S t=true->DataW.trod enc P W base sp held fuel t cs=some (d,ps)->∃ pvs,zex W (RW W) pvs cs/\Sh t pvs/\zgy pvs<=dwb d) :
 ∀ (fs:List Field) (off:Nat) (xs:List (DataW H×List MemPlace)),yhy P S off cs.length fs=true->off<=cs.length ->
  (∀ f∈fs,f.offset+P.cellsOf f.type<=cs.length) ->
  fs.mapM (fun f=>DataW.trod enc P W base sp held fuel f.type ((cs.drop f.offset).take (P.cellsOf f.type)))=some xs ->
  ∃ pvs,zex W (RW W) pvs (cs.drop off)/\xfb P Sh fs pvs/\zgy pvs<=zsm (xs.map (·.1))
 | [],off,xs,hs,hle,_,h=>by
  simp only [yhy] at hs;have:=zy7 hs;subst this;simp only [List.mapM_nil,Option.pure_def,Option.some.injEq] at h;subst h;exact ⟨[],by rw [zy19 (zy23 _)];exact .nil,rfl,by simp [zgy,zsm]⟩
 | f::fs,off,xs,hs,hle,hb,h=>by
  simp only [yhy,zy16] at hs;obtain ⟨⟨h1,h2⟩,h3⟩:=hs;have h1:=zy7 h1;subst h1;simp only [List.mapM_cons,Option.bind_eq_bind,Option.pure_def] at h;cases hx:DataW.trod enc P W base sp held fuel f.type ((cs.drop f.offset).take (P.cellsOf f.type)) with
  | none=>rw [hx] at h;simp at h
  | some x =>
   obtain ⟨d,ps⟩:=x;rw [hx] at h;simp only [zy152] at h;cases hr:fs.mapM (fun f=>DataW.trod enc P W base sp held fuel f.type ((cs.drop f.offset).take (P.cellsOf f.type))) with
   | none=>rw [hr] at h;simp at h
   | some r =>
    rw [hr] at h;simp only [zy152,Option.some.injEq] at h;subst h;obtain ⟨pa,ha1,ha2,ha3⟩:=ih _ _ _ _ h2 hx;have hbf:=hb f zz5;obtain ⟨pb,hb1,hb2,hb3⟩:=yib ih fs (f.offset+P.cellsOf f.type) r h3 hbf (fun g hg=>hb g (by simp [hg])) hr;have hl:=ha1.length;have htl:((cs.drop f.offset).take (P.cellsOf f.type)).length=P.cellsOf f.type:=by simp;omega
    refine ⟨pa++pb,?_,⟨pa,pb,rfl,by omega,ha2,hb2⟩,by rw [zsk];simp only [zy35,zsm];omega⟩;have:=ha1.append hb1;rw [<- zy145,zy31] at this;exact this
theorem yon {S:TypeId->Bool} {tot:Nat}:∀ {fs:List Field} {off:Nat},yhy P S off tot fs=true->off<=tot/\∀ f∈fs,f.offset+P.cellsOf f.type<=tot
 | [],off,h=>by simp only [yhy] at h;have:=zy7 h;exact ⟨by omega,by simp⟩
 | f::fs,off,h=>by
  simp only [yhy,zy16] at h;obtain ⟨⟨h1,h2⟩,h3⟩:=h;have h1:=zy7 h1;obtain ⟨h4,h5⟩:=yon h3;refine ⟨by omega,fun g hg=>?_⟩;rcases zy13.1 hg with rfl | hg
  . omega
  . exact h5 g hg
theorem ycw:∀ (n fuel:Nat) (t:TypeId) (cs:List Value) (d:DataW H) (ps:List MemPlace),xau P n t=true->DataW.trod enc P W base sp held fuel t cs=some (d,ps) ->
 ∃ pvs,zex W (RW W) pvs cs/\shp P n t pvs/\zgy pvs<=dwb d
 | 0,fuel,t,cs,d,ps,hs,h=>by cases hs
 | n+1,0,t,cs,d,ps,hs,h=>by simp [DataW.trod] at h
 | n+1,fuel+1,t,cs,d,ps,hs,h=>by
  simp only [xau] at hs;simp only [shp];unfold DataW.trod at h;cases hu:P.underlying t with
  | none=>rw [hu] at hs;cases hs
  | some u =>
   rw [hu] at hs h;cases u with
   | bool =>
    rcases cs with _ | ⟨c,_ | ⟨c2,cs⟩⟩
    . cases h
    . cases c<;>try cases h
      rename_i b;exact ⟨[.v (.bool b)],.cons (.v _ rfl) .nil,⟨b,rfl⟩,by simp [zgy,PV.bulk,dwb]⟩
    . cases c<;>first | cases h | simp at h
   | int k =>
    rcases cs with _ | ⟨c,_ | ⟨c2,cs⟩⟩
    . cases h
    . cases c<;>try cases h
      rename_i k' z;simp only at h;split at h
      . rename_i hw
        obtain ⟨rfl,hw⟩:=hw;cases h;exact ⟨[.v (.int k' z)],.cons (.v _ rfl) .nil,⟨z,rfl,hw⟩,by simp [zgy,PV.bulk,dwb]⟩
      . cases h
    . cases c<;>first | cases h | simp at h
   | string =>
    rcases cs with _ | ⟨c,_ | ⟨c2,cs⟩⟩
    . cases h
    . cases c<;>try cases h
      rename_i s;simp only at h;split at h
      . rename_i hw
        cases h;exact ⟨[.v (.string s)],.cons (.v _ rfl) .nil,⟨s,rfl,hw⟩,by simp only [zgy,PV.bulk,dwb,Array.length_toList,zy89];exact zy23 _⟩
      . cases h
    . cases c<;>first | cases h | simp at h
   | slice e =>
    simp only [zy16] at hs;obtain ⟨hs,hpos⟩:=hs;have hpos:0<P.cellsOf e:=zy39 hpos;rcases cs with _ | ⟨c,_ | ⟨c2,cs⟩⟩
    . cases h
    . cases c<;>try cases h
      rename_i a len cap;cases a with
      | none =>
       cases len with
       | zero=>cases cap with
        | zero =>
         cases h;exact ⟨[.sl (P.cellsOf e) []],.cons (.sl0 _ _ _ (zy107 _)) .nil,⟨[],rfl,by simp⟩,by simp [zgy,PV.bulk,zks,dwb]⟩
        | succ cap=>cases h
       | succ len=>cases h
      | some a =>
       simp only at h;split at h
       . rename_i hb
         obtain ⟨hb,hlc,hcm⟩:=hb;cases he:(List.range len).mapM (fun i=>(W.cells? base (a.add (i*P.cellsOf e)) (P.cellsOf e)).bind (DataW.trod enc P W base sp held fuel e)) with
         | none=>rw [he] at h;simp at h
         | some elems =>
          rw [he] at h;simp only [zy152] at h;have hle:=mapM_some_length he;simp only [List.length_range] at hle;have hd:zsm (elems.map (·.1))+1<=dwb d:=by
           obtain ⟨rest,hr,hx⟩:=zy29.1 h;cases hx;simp only [dwb];omega
          -- each element
          have hat:∀ i,i<len->∃ cs x,W.cells? base (a.add (i*P.cellsOf e)) (P.cellsOf e)=some cs/\elems[i]?=some x/\DataW.trod enc P W base sp held fuel e cs=some x:=by
           intro i hi;have hg:=mapM_some_get he i i (by rw [zy118 hi]);obtain ⟨x,hx⟩:∃ x,elems[i]?=some x:=⟨_,zy3 zz0⟩
           rw [hx] at hg;cases hc:W.cells? base (a.add (i*P.cellsOf e)) (P.cellsOf e) with
           | none=>rw [hc] at hg;simp at hg
           | some cs=>rw [hc] at hg;exact ⟨cs,x,rfl,hx,by simpa using hg⟩
          cases len with
          | zero =>
           have:elems=[]:=zy14 hle;subst this;refine ⟨[.sl (P.cellsOf e) []],.cons (.sl0 _ _ _ hcm) .nil,⟨[],rfl,by simp⟩,?_⟩;simp [zgy,PV.bulk,zks] at hd ⊢;omega
          | succ len =>
           have hspot:a=⟨a.block,a.off,none⟩:=by
            obtain ⟨cs0,x0,h1,_,_⟩:=hat 0 zz0;obtain ⟨hl0,hc0⟩:=zxx h1;have h2:=hc0 0 (cs0[0]'zz0) (zy3 zz0);simp only [Nat.zero_mul,Addr.add,if_true] at h2;obtain ⟨blk,off,spot⟩:=a;unfold World.cell? at h2;split at h2
            . split at h2
              . cases h2
              . rename_i hsn
                cases spot with
                | none=>rfl
                | some x=>simp at hsn
            . cases h2
           obtain ⟨blk,off,spot⟩:=a;simp only [Addr.mk.injEq,true_and] at hspot;subst hspot;have hadd:∀ off j,(⟨blk,off,none⟩:Addr).add j=⟨blk,off+j,none⟩:=by
            intro off j;unfold Addr.add;split
            . rename_i h0;subst h0;rfl
            . rfl
           have zpn:∀ i,i<len+1->∃ r:List PV,r.length=P.cellsOf e/\shp P n e r/\(∃ x,elems[i]?=some x/\zgy r<=dwb x.1)/\∀ (k:Nat) y,r[k]?=some y->∃ cv,W.cell? ⟨blk,off+(i*P.cellsOf e+k),none⟩=some cv/\zic W (RW W) y cv:=by
            intro i hi;obtain ⟨cs,x,h1,h2,h3⟩:=hat i hi;obtain ⟨r,h4,h5,h6⟩:=ycw n fuel e cs x.1 x.2 hs h3;obtain ⟨h7,h8⟩:=zxx h1;refine ⟨r,by rw [<- h7];exact h4.length.symm,h5,⟨x,h2,h6⟩,fun k y hk=>?_⟩;obtain ⟨v,hv,hp⟩:=h4.get k y hk;have h9:=h8 k v hv;rw [hadd,hadd] at h9;exact ⟨v,by rw [<- h9,zy97],hp⟩
           let row:Nat->List PV:=fun i=>if hi:i<len+1 then Classical.choose (zpn i hi) else []
           have hrowi:∀ i (hi:i<len+1),(row i).length=P.cellsOf e/\shp P n e (row i)/\(∃ x,elems[i]?=some x/\zgy (row i)<=dwb x.1)/\∀ (k:Nat) y,(row i)[k]?=some y->∃ cv,W.cell? ⟨blk,off+(i*P.cellsOf e+k),none⟩=some cv/\zic W (RW W) y cv:=by
            intro i hi;have:=Classical.choose_spec (zpn i hi);simp only [row,dif_pos hi];exact this
           let rows:=(List.range (len+1)).map row
           have hrl:rows.length=len+1:=by simp [rows]
           have hmem:∀ r∈rows,∃ i,i<len+1/\r=row i:=by
            intro r hr;obtain ⟨i,hi,rfl⟩:=zy36.1 hr;exact ⟨i,List.mem_range.1 hi,rfl⟩
           have hlens:∀ r∈rows,r.length=P.cellsOf e:=by
            intro r hr;obtain ⟨i,hi,rfl⟩:=hmem r hr;exact (hrowi i hi).1
           have hcell:∀ k y,rows.flatten[k]?=some y->∃ cv,W.cell? ⟨blk,off+k,none⟩=some cv/\zic W (RW W) y cv:=by
            intro k y hk;obtain ⟨i,j,r,e1,hj,hr,hy⟩:=zfs hlens hk;have hi:i<len+1:=by
             have:=(zy9.1 hr).1;rw [hrl] at this;exact this
            have hre:r=row i:=by
             simp only [rows,zy17,zy118 hi,zy63,Option.some.injEq] at hr;exact hr.symm
            subst hre;obtain ⟨cv,h1,h2⟩:=(hrowi i hi).2.2.2 j y hy;exact ⟨cv,by rw [e1];exact h1,h2⟩
           have hblk:blk<W.heap.size:=by
            obtain ⟨hl0,_,_,hc0⟩:=hrowi 0 zz0;obtain ⟨cv,h1,_⟩:=hc0 0 ((row 0)[0]'zz0) (zy3 zz0);exact xcu h1
           have hprep:zic W (RW W) (.sl (P.cellsOf e) rows) (.slice (some ⟨blk,off,none⟩) (len+1) cap):=by
            have:=zic.sl (w:=W) (R:=RW W) (P.cellsOf e) rows blk off cap (fun k=>(W.cell? ⟨blk,off+k,none⟩).getD undef) zz0 hcm hlens hblk
             (fun k y hk=>by obtain ⟨cv,h1,_⟩:=hcell k y hk;simp only [h1];rfl) (fun k y hk=>by obtain ⟨cv,h1,h2⟩:=hcell k y hk;simp only [h1];exact h2)
            rw [hrl] at this;exact this
           refine ⟨[.sl (P.cellsOf e) rows],.cons hprep .nil,⟨rows,rfl,fun r hr=>?_⟩,?_⟩
           . obtain ⟨i,hi,rfl⟩:=hmem r hr
             exact (hrowi i hi).2.1
           . have hbr:∀ (es:List (DataW H×List MemPlace)) (g:Nat->List PV) (m:Nat),es.length=m->(∀ i,i<m->∃ x,es[i]?=some x/\zgy (g i)<=dwb x.1)->zks ((List.range m).map g)<=zsm (es.map (·.1)):=by
              intro es
              induction es with
              | nil=>intro g m hm _;simp at hm;subst hm;simp [zks,zsm]
              | cons x es ih =>
               intro g m hm hg;simp at hm;subst hm;rw [List.range_succ_eq_map];simp only [zy35,zy113,zks,zsm];obtain ⟨x0,h1,h2⟩:=hg 0 zz0;simp at h1;subst h1;have:=ih (g∘Nat.succ) es.length rfl fun i hi=>by
                obtain ⟨y,h3,h4⟩:=hg (i+1) zz0;exact ⟨y,by simpa using h3,h4⟩
               omega
             have:zks rows<=zsm (elems.map (·.1)):=hbr elems row (len+1) hle fun i hi=>(hrowi i hi).2.2.1
             simp only [zgy,PV.bulk];show zks rows+1+0<=dwb d;omega
       . cases h
    . cases c<;>first | cases h | simp at h
   | struct fs =>
    simp only at h;split at h
    . rename_i hl
      obtain ⟨xs,hx,hx2⟩:=zy29.1 h;cases hx2;rw [<- hl] at hs;obtain ⟨h1,h2⟩:=yon hs;obtain ⟨pvs,h3,h4,h5⟩:=yib (S:=xau P n) (Sh:=shp P n) (fun t cs d ps=>ycw n fuel t cs d ps) fs.toList 0 xs hs h1 h2 hx;exact ⟨pvs,by simpa using h3,h4,by simp only [dwb];omega⟩
    . cases h
   | _=>cases hs
def yio (P:Program) (t:TypeId) (pvs:List PV):HV:=match P.underlying t with
 | some (.struct _)=>.agg (pvs.map .p)
 | _=>match pvs with | [x]=>.p x | _=>.any
theorem yvq {m:zfn} {R:Nat->Prop} {pvs:List PV} {vs:List Value} (h:zex W R pvs vs):zbf m W R (pvs.map .p) vs:=by
 induction h with
 | nil=>simp only [zy114,zbf]
 | cons h _ ih=>simp only [zy35,zbf];exact ⟨_,_,rfl,by simp only [zbd];exact h,ih⟩
theorem xcp {n:Nat} {t:TypeId} {v:Value} {d:DataW H} {ps:List MemPlace} {r:Reach} {b0:Nat} {m:zfn} (hs:xau P n t=true) (hok:Value.okWide P W r b0 t v) (h:DataW.Trod enc P W base sp held t v d ps) :
 ∃ pvs,shp P n t pvs/\zgy pvs<=dwb d/\zbd m W (RW W) (yio P t pvs) v:=by
 obtain ⟨fuel,h⟩:=h;obtain ⟨pvs,h1,h2,h3⟩:=ycw n fuel t _ d ps hs h;refine ⟨pvs,h2,h3,?_⟩;cases n with
 | zero=>cases hs
 | succ n =>
  have one:∀ {x:PV},pvs=[x]->v.cells=#[v]->zbd m W (RW W) (.p x) v:=by
   intro x hx hv;subst hx;rw [hv] at h1;cases h1 with
   | cons h _=>simp only [zbd];exact h
  simp only [xau] at hs;simp only [shp] at h2;simp only [Value.okWide] at hok;unfold yio;cases hu:P.underlying t with
  | none=>rw [hu] at hs;cases hs
  | some u =>
   rw [hu] at hs h2 hok;cases u with
   | bool =>
    simp only [Cell.okWide,Cell.ok,hu] at hok;obtain ⟨b,rfl⟩:=h2;cases v<;>try exact hok.elim
    exact one rfl rfl
   | int k =>
    exact yy87
   | string =>
    exact yy87
   | slice e =>
    exact yy87
   | struct fs =>
    obtain ⟨cs,rfl,_,_⟩:=hok;simp only [zbd];exact ⟨cs,rfl,yvq h1⟩
   | _=>cases hs
def xfc (P:Program) (n:Nat):List TypeId->List (List PV)->Prop
 | [],[]=>True
 | t::ts,x::xs=>shp P n t x/\xfc P n ts xs
 | _,_=>False
def zuo (P:Program):List TypeId->List (List PV)->List HV
 | t::ts,x::xs=>yio P t x::zuo P ts xs
 | _,_=>[]
theorem ylk {n:Nat} {r:Reach} {b0:Nat} {m:zfn}:∀ {ts:List TypeId} {vs:List Value} {ds:List (DataW H)} {ps:List MemPlace},(∀ t∈ts,xau P n t=true)->(∀ (j:Nat) t v,ts[j]?=some t->vs[j]?=some v->Value.okWide P W r b0 t v) ->
 DataW.TrodAll enc P W base sp held ts vs ds ps->∃ L,xfc P n ts L/\zks L<=zsm ds/\zbf m W (RW W) (zuo P ts L) vs/\ds.length=ts.length
 | [],[],[],ps,_,_,_=>⟨[],trivial,by simp [zks,zsm],by simp only [zuo,zbf],rfl⟩
 | t::ts,v::vs,d::ds,ps,hs,hok,h=>by
  obtain ⟨p,q,h1,h2,rfl⟩:=h;obtain ⟨x,h3,h4,h5⟩:=xcp (m:=m) (hs t zz5) (hok 0 t v rfl rfl) h1;obtain ⟨L,h6,h7,h8,h9⟩:=ylk (fun t ht=>hs t (by simp [ht])) (fun j t v hj hv=>hok (j+1) t v zz126 zz118) h2;exact ⟨x::L,⟨h3,h6⟩,by simp only [zks,zsm];omega,by simp only [zuo,zbf];exact ⟨v,vs,rfl,h5,h8⟩,by simp [h9]⟩
 | [],[],_::_,_,_,_,h=>h.elim
 | [],_::_,_,_,_,_,h=>h.elim
 | _::_,[],_,_,_,_,h=>h.elim
 | _::_,_::_,[],_,_,_,h=>h.elim
theorem zqp (hl:laidOutB P=true) {W':World} (hb:Below W.heap.size W W'):∀ {ts:List TypeId} {vs:List Value} {ds:List (DataW H)} {ps:List MemPlace},(∀ t∈ts,P.readableRec t=true/\t<P.types.size) ->
 DataW.TrodAll enc P W 0 (fun _=>true) true ts vs ds ps->(∀ x∈ps,x.block<W.heap.size)->DataW.TrodAll enc P W' 0 (fun b=>decide (b<W.heap.size)) true ts vs ds ps
 | [],[],[],ps,_,h,_=>h
 | t::ts,v::vs,d::ds,ps,hr,h,hlt=>by
  obtain ⟨p,q,h1,h2,rfl⟩:=h;exact ⟨p,q,Below.trod hl (hr t zz5).1 (hr t zz5).2 h1 hb fun x hx=>hlt x zz103,zqp hl hb (fun t ht=>hr t (by simp [ht])) h2 fun x hx=>hlt x zz103,rfl⟩
 | [],[],_::_,_,_,h,_=>h.elim
 | [],_::_,_,_,_,h,_=>h.elim
 | _::_,[],_,_,_,h,_=>h.elim
 | _::_,_::_,[],_,_,h,_=>h.elim
theorem yfl {f:FuncId} {fn:Func} {s:ChangeSpec} {args:Array Value} {ds gs:List (DataW H)} {before:List MemPlace} {b0:Nat} {tb:TypeId} (n:Nat) (hl:laidOutB P=true)
 (hsupp:fn.params.toList.all (xau P n)=true) (hread:fn.params.toList.all (fun t=>P.readableRec t&&decide (t<P.types.size))=true)
 (hrt:fn.resultTypes=#[tb]) (htb:P.underlying tb=some .bool) (hvars:s.vars=[]) (hfn:∀ ds:List (DataW H),ds.length=fn.params.toList.length->(s.fn H ds).results=[.lit (.bool true)]/\(s.fn H ds).args=ds/\(s.fn H ds).vars=[])
 (hval:∀ (j:Nat) t v,fn.params[j]?=some t->args[j]?=some v->Value.okWide P W .any b0 t v)
 (hW:DataW.Whole enc P fn.params.toList s.vars false W args.toList ds gs before)
 (hspec:∀ L,xfc P n fn.params.toList L->zks L<=zsm ds->zan P f (zuo P fn.params.toList L) zad (zbj true) zad) :
 Calls P f args W fun e W'=>∃ v,e=.returned v/\s.post enc P fn false true false false W args v W':=by
 have hW':=hW;obtain ⟨p,q,hA,hV,rfl,hfz,hnd⟩:=hW;have hVe:gs=[]/\q=[]:=by
  rw [hvars] at hV;cases gs with
  | nil=>exact ⟨rfl,hV⟩
  | cons=>exact hV.elim
 obtain ⟨rfl,rfl⟩:=hVe;obtain ⟨L,h1,h2,h3,h4⟩:=ylk (m:=fun _=>none) (n:=n) (fun t ht=>zy56.1 hsupp t ht) (fun j t v hj hv=>hval j t v zz126 zz118) hA
 let Γ:Ctx:=⟨fun _=>True,W,fun _=>False,fun _=>none⟩
 have hok:zbl Γ (fun _=>none) zad W:=⟨zy23 _,rfl,rfl,rfl,fun _ _ _=>rfl,fun _ _=>rfl,(fun id b hb=>by cases hb),(fun id b hb=>by cases hb),(fun id id' b b' l l' hb=>by cases hb),fun b hb=>hb.elim⟩
 have hrep:zbf (fun _=>none) W (RR Γ (fun _=>none) zad W) (zuo P fn.params.toList L) args.toList:=zbf.mono (.refl _) (fun b hb=>⟨rfl,.inl trivial,hb,ybn⟩) _ _ h3;obtain ⟨-,hcalls⟩:=hspec L h1 h2 Γ _ W args.toList hok hrep rfl;have hat:args.toList.toArray=args:=by simp
 rw [hat] at hcalls;refine hcalls.mono fun e W1 he=>?_
 obtain ⟨v,m',rfl,hok',hv,_⟩:=he;have hvb:=zid hv;subst hvb;have hb:Below W.heap.size W W1:=⟨hok'.os,hok'.tape,hok'.output,hok'.size,fun k hk=>hok'.frame k hk fun h=>h⟩
 obtain ⟨hf1,hf2,hf3⟩:=hfn (ds++[]) (by simp [h4]);refine ⟨_,rfl,ds,[],p++[],[],p,[],hW',?_,?_,?_,hb.frame _,fun h=>by cases h⟩
 . rw [hf1,hrt]
   have:(Value.bool true).resultList (#[tb]:Array TypeId).size=[.bool true]:=by simp [Value.resultList]
   rw [this];exact ⟨[],[],⟨1,by simp [DataW.trod,htb,Value.cells]⟩,rfl,rfl⟩
 . rw [hf2]
   have hlt:∀ x∈p,x.block<W.heap.size:=fun x hx=>by simpa using hW'.lt x zz110
   have:=zqp hl hb (fun t ht=>by
    have:=zy56.1 hread t ht;simp only [zy16,zy43] at this;exact this) hA hlt
   simpa using this
 . rw [hvars,hf3]
   rfl
end
end Go.HL
namespace Go.HL
section
variable {P:Program} {n:Nat} {t e:TypeId} {pvs:List PV}
theorem zoo {k:IntKind} (hu:P.underlying t=some (.int k)) (h:shp P n t pvs):∃ z,pvs=[.v (.int k z)]/\(Lit.int k z).wf=true:=by
 cases n with
 | zero=>exact h.elim
 | succ n=>simpa only [shp,hu] using h
theorem yof (hu:P.underlying t=some .bool) (h:shp P n t pvs):∃ b,pvs=[.v (.bool b)]:=by
 cases n with
 | zero=>exact h.elim
 | succ n=>simpa only [shp,hu] using h
theorem ywi (hu:P.underlying t=some (.slice e)) (h:shp P n t pvs):∃ rows,pvs=[.sl (P.cellsOf e) rows]/\∀ r∈rows,shp P (n-1) e r:=by
 cases n with
 | zero=>exact h.elim
 | succ n=>simpa only [shp,hu,Nat.add_sub_cancel] using h
theorem zzf {fs:Array Field} (hu:P.underlying t=some (.struct fs)) (h:shp P n t pvs):xfb P (shp P (n-1)) fs.toList pvs:=by
 cases n with
 | zero=>exact h.elim
 | succ n=>simpa only [shp,hu,Nat.add_sub_cancel] using h
theorem zgs {S:TypeId->List PV->Prop} {f:Field} {fs:List Field} (h:xfb P S (f::fs) pvs):∃ a b,pvs=a++b/\S f.type a/\xfb P S fs b:=by
 obtain ⟨a,b,h1,_,h2,h3⟩:=h;exact ⟨a,b,h1,h2,h3⟩
theorem ywa {β:Type} {row:β->List PV} {Q:β->Prop}:∀ {rows:List (List PV)},(∀ r∈rows,∃ x,r=row x/\Q x)->∃ xs:List β,rows=xs.map row/\∀ x∈xs,Q x
 | [],_=>⟨[],rfl,by simp⟩
 | r::rows,h=>by
  obtain ⟨x,rfl,hx⟩:=h r zz5;obtain ⟨xs,rfl,hxs⟩:=ywa (rows:=rows) fun r hr=>h r (by simp [hr])
  exact ⟨x::xs,rfl,by intro y hy;rcases zy13.1 hy with rfl | hy;exact hx;exact hxs y hy⟩
theorem ylp:∀ {rows:List (List PV)},(∀ r∈rows,1<=zgy r)->rows.length<=zks rows
 | [],_=>by simp [zks]
 | r::rows,h=>by
  have h1:=h r zz5;have h2:=ylp (rows:=rows) fun r hr=>h r (by simp [hr])
  simp only [zks,zy6];omega
theorem wf_i64 {z:Int} (h:(Lit.int .i64 z).wf=true):-9223372036854775808<=z/\z<=9223372036854775807:=by
 simpa [Lit.wf,IntKind.min,IntKind.max,IntKind.signed,IntKind.bits] using h
theorem zqb {ts:List TypeId} {L:List (List PV)} (h:xfc P n (t::ts) L):∃ x xs,L=x::xs/\shp P n t x/\xfc P n ts xs:=by
 cases L with
 | nil=>exact h.elim
 | cons x xs=>exact ⟨x,xs,rfl,h.1,h.2⟩
theorem xan {L:List (List PV)} (h:xfc P n [] L):L=[]:=by
 cases L with
 | nil=>rfl
 | cons x xs=>exact h.elim
end
end Go.HL
namespace Go.HL
abbrev pi (n:Int):PV:=.v (.int .i64 n)
abbrev pb (b:Bool):PV:=.v (.bool b)
abbrev ints (l:List Int):HV:=.p (.sl 1 (l.map fun n=>[pi n]))
def inI (z:Int):Prop:=-9223372036854775808<=z/\z<=9223372036854775807
section
variable {P:Program} {n c:Nat} {t e:TypeId} {pvs:List PV}
theorem zyi {z:Int} (h:(Lit.int .i64 z).wf=true):inI z:=wf_i64 h
theorem ycc {α:Type} {row:α->List PV} {Q:α->Prop} (hu:P.underlying t=some (.slice e)) (hc:P.cellsOf e=c) (he:∀ r,shp P (n-1) e r->∃ x,r=row x/\Q x) (h:shp P n t pvs) :
 ∃ l:List α,pvs=[.sl c (l.map row)]/\∀ y∈l,Q y:=by
 obtain ⟨rows,h1,h2⟩:=ywi hu h;obtain ⟨l,h3,h4⟩:=ywa (row:=row) (Q:=Q) fun r hr=>he r (h2 r hr)
 exact ⟨l,by rw [h1,h3,hc],h4⟩
theorem zwf (hu:P.underlying t=some (.slice e)) (hi:P.underlying e=some (.int .u8)) (hc:P.cellsOf e=1) (h:shp P n t pvs):∃ l:List UInt8,pvs=[.sl 1 (l.map zcp)]:=by
 obtain ⟨l,h1,-⟩:=ycc (row:=zcp) (Q:=fun _=>True) hu hc (fun r hr=>by
  obtain ⟨z,h1,h2⟩:=zoo hi hr;have h3:0<=z/\z<=255:=by simpa [Lit.wf,IntKind.min,IntKind.max,IntKind.signed,IntKind.bits] using h2
  refine ⟨UInt8.ofNat z.toNat,?_,trivial⟩;rw [h1];have:((UInt8.ofNat z.toNat).toNat:Int)=z:=by
   rw [UInt8.toNat_ofNat'];omega
  simp only [zcp,this]) h
 exact ⟨l,h1⟩
theorem xco {z:Int} (hu:P.underlying t=some (.int .i64)):yio P t [.v (.int .i64 z)]=i64 z:=by unfold yio;rw [hu]
theorem zun {rows:List (List PV)} {k:Nat} (hu:P.underlying t=some (.slice e)):yio P t [.sl k rows]=.p (.sl k rows):=by unfold yio;rw [hu]
end
end Go.HL
namespace Go.HL
theorem zbz {α:Type} {f:α->List PV} {l:List α} {z:Int} {K:List PV->Prop} (k:Nat) (hz:z=k) (h:k<l.length) (hk:K (f l[k])):zpn (l.map f) z K :=
 ⟨_,by omega,by rw [hz,zy22,zy17,zy3 h];rfl,hk⟩
theorem ziq {b:List UInt8} {z:Int} {K:List PV->Prop} (k:Nat) (hz:z=k) (h:k<b.length) (hk:K (zcp (b[k]?.getD 0))):zpn (b.map zcp) z K :=
 ⟨_,by omega,by rw [hz,zy22,zy17,zy3 h];rfl,hk⟩
theorem zgc {α:Type} {f:α->List PV} {l:List α} {o n:Nat} {K:List (List PV)->Prop} (h:o+n<=l.length) (hk:K (((l.drop o).take n).map f)):zre (l.map f) o n K :=
 ⟨_,rfl,by rw [zy2];exact h,by rw [<- zy104,<- zy124];exact hk⟩
theorem zfh {α:Type} {f:α->List PV} {l:List α} {o n:Nat} {K:List (List PV)->Prop} (h:o+n=l.length) (hk:K ((l.drop o).map f)):zre (l.map f) o n K:=by
 refine zgc zz0 ?_;rw [zy37 (by rw [zy38];omega)];exact hk
end Go.HL
namespace Go.HL
def by8 (z:Int):UInt8:=UInt8.ofNat (z % 256).toNat
theorem zjy (z:Int):((by8 z).toNat:Int)=z % 256:=by
 unfold by8;rw [UInt8.toNat_ofNat'];omega
theorem xgt (z:Int):IntKind.u8.wrap z=((by8 z).toNat:Int):=by
 rw [zjy];unfold IntKind.wrap;simp [IntKind.bits,IntKind.signed]
theorem zdo {z:Int} {K:Int->Prop} (h:K ((by8 z).toNat:Int)):znp .u8 z K:=⟨_,(xgt z).symm,h⟩
abbrev zxw (l:List UInt8):HV:=.p (.sl 1 (l.map zcp))
def zbt (n:Int):List UInt8:=[by8 (n / 256),by8 n]
def zin (a b:UInt8):Int:=a.toNat*256+b.toNat
theorem zxv (b:UInt8):by8 (b.toNat:Int)=b:=by
 apply UInt8.toNat_inj.1;have h1:=zjy (b.toNat:Int);have h2:=b.toNat_lt;have:(b.toNat:Int) % 256=b.toNat:=by omega
 omega
theorem zmb (a b:UInt8):zbt (zin a b)=[a,b]:=by
 have ha:=a.toNat_lt;have hb:=b.toNat_lt;unfold zbt zin;have e1:((a.toNat:Int)*256+b.toNat) / 256=a.toNat:=by omega
 rw [e1,zxv];have e2:by8 ((a.toNat:Int)*256+b.toNat)=b:=by
  apply UInt8.toNat_inj.1;have h1:=zjy ((a.toNat:Int)*256+b.toNat);have:((a.toNat:Int)*256+b.toNat) % 256=b.toNat:=by omega
  omega
 rw [e2]
end Go.HL
namespace Go.HL
theorem ynu (a:Nat) (ha:a<2 ^ 64):(BitVec.ofInt 64 (a:Int)).toNat=a:=by
 rw [BitVec.ofInt_natCast,BitVec.toNat_ofNat];exact Nat.mod_eq_of_lt zz0
theorem yzr (a b:Nat) (ha:a<256) (hb:b<256):bits .or .i64 ((a:Int)*256) (b:Int)=(a:Int)*256+b:=by
 have e:∀ z:Int,z=(a:Int)*256->z=((a <<< 8:Nat):Int):=by intro z hz;rw [Nat.shiftLeft_eq,hz];omega
 have h1:a <<< 8<2 ^ 64:=by rw [Nat.shiftLeft_eq];omega
 show IntKind.i64.wrap ((BitVec.ofInt 64 ((a:Int)*256) ||| BitVec.ofInt 64 (b:Int)).toNat:Int)=_;rw [e _ rfl,BitVec.toNat_or,ynu _ h1,ynu b (by omega),<- Nat.shiftLeft_add_eq_or_of_lt (by omega:b<2 ^ 8),Nat.shiftLeft_eq];have:=zbu (z:=((a*2 ^ 8+b:Nat):Int)) zz0 zz0;rw [show IntKind.i64.wrap ((a*2 ^ 8+b:Nat):Int)=W ((a*2 ^ 8+b:Nat):Int) from rfl,this];omega
theorem xdt (a:Nat) (ha:a<256):(BitVec.ofInt 8 (a:Int)).toNat=a:=by
 rw [BitVec.ofInt_natCast,BitVec.toNat_ofNat];exact Nat.mod_eq_of_lt zz0
theorem xcl (b:UInt8):bits .and .u8 (b.toNat:Int) 1=((b.toNat % 2:Nat):Int):=by
 have hb:=b.toNat_lt;show IntKind.u8.wrap ((BitVec.ofInt 8 (b.toNat:Int) &&& BitVec.ofInt 8 1).toNat:Int)=_;have h1:(BitVec.ofInt 8 1).toNat=2 ^ 1-1:=by decide
 rw [BitVec.toNat_and,xdt _ (by omega),h1,Nat.and_two_pow_sub_one_eq_mod,xgt,zjy];omega
theorem xcn (b:UInt8) (h:b.toNat<=3):bits .and .u8 (b.toNat:Int) 2=((b.toNat / 2*2:Nat):Int):=by
 generalize b.toNat=n at h ⊢
 match n,h with
 | 0,_=>decide
 | 1,_=>decide
 | 2,_=>decide
 | 3,_=>decide
theorem xcm (n:Int):bits .and .i64 n 65535=n % 65536:=by
 have h127:(BitVec.ofInt 64 65535).toNat=2 ^ 16-1:=by decide
 have key:(BitVec.ofInt 64 n &&& BitVec.ofInt 64 65535).toNat=(n % ((2 ^ 64:Nat):Int)).toNat % 2 ^ 16:=by
  rw [BitVec.toNat_and,BitVec.toNat_ofInt,h127,Nat.and_two_pow_sub_one_eq_mod]
 show IntKind.i64.wrap ((BitVec.ofInt 64 n &&& BitVec.ofInt 64 65535).toNat:Nat)=n % 65536;rw [key];rw [show IntKind.i64.wrap (((n % ((2 ^ 64:Nat):Int)).toNat % 2 ^ 16:Nat):Int)=W (((n % ((2 ^ 64:Nat):Int)).toNat % 2 ^ 16:Nat):Int) from rfl,zbu (by omega) (by omega)];omega
end Go.HL
namespace Go.HL
theorem zkx {α:Type} {d:α} {i:Nat} {x:α} {L:List (Nat×α)}:lk d ((i,x)::L)=upd (lk d L) i x:=by
 funext j;simp only [lk,upd]
theorem yxr {α:Type} (f:Nat->α) (i:Nat) (x y:α):upd (upd f i x) i y=upd f i y:=by
 funext j
 by_cases h:j=i
 . subst h;rw [zbh,zbh]
 . rw [zbm _ _ h,zbm _ _ h,zbm _ _ h]
section
variable {P:Program}
theorem yym {f:FuncId} {args:List HV} {d:Nat} {H:Nat->zai} {K:Res->Prop} {r:Res} (h:Ov P f args H r) (k:K r):yep (CR P) f args d H K:=⟨r,.ov h,k⟩
theorem yte {f:FuncId} {id:Nat} {t:TypeId} {n:Nat} {rows:List (List PV)} {rest:List HV} {L:List (Nat×zai)} {r:HV} {H':Nat->zai} (hne:rows≠[])
 (h:∀ cap,rows.length<=cap->cap<=maxLen->zan P f (.osl id n 0 rows.length::rest) (lk .free ((id,.live (.buf t n rows cap))::L)) r H'):zan P f (.own id::rest) (lk .free ((id,.live (.row t n rows))::L)) r H':=by
 intro Γ m w vals hok hx h0;have hH:lk .free ((id,zai.live (.row t n rows))::L) id=.live (.row t n rows):=by rw [zkx,zbh]
 obtain ⟨l,hl,hbr,_⟩:=hok.live id _ hH;obtain ⟨h1,h2,h3⟩:=hbr;rcases h3 with ⟨_,h3⟩ | ⟨hn,h4,h5,arr,h6,h7,h8⟩
 . exact absurd h3 hne
 have hws:=WS.set hok hH hl hn (w':=w) (b':=.buf t n rows l.cap) rfl rfl rfl rfl (fun _ _=>rfl) fun R' hk =>
  ⟨hn,rfl,h2,h4,h5,arr,h6,h7,fun k x hx=>let ⟨cv,h9,h10⟩:=h8 k x hx;⟨cv,h9,h10.mono hk⟩⟩
 have he:upd (lk .free ((id,zai.live (.row t n rows))::L)) id (.live (.buf t n rows l.cap))=lk .free ((id,.live (.buf t n rows l.cap))::L):=by
  rw [zkx,zkx,yxr]
 rw [he] at hws;refine h l.cap h4 h5 Γ m w vals hws.ok ?_ h0;simp only [zbf] at hx ⊢;obtain ⟨v,vs,rfl,hv,hvs⟩:=hx;refine ⟨v,vs,rfl,?_,hws.repL hvs⟩;simp only [zbd] at hv ⊢;obtain ⟨l',hl',rfl⟩:=hv;rw [hl] at hl';cases hl';exact ⟨l,some ⟨l.blk,0,none⟩,hl,by simp [Loc.room,hn];exact h4,by simp [Loc.room,hn];exact h5,by simp [hdr,hn,h1,Loc.room],fun _=>by simp [Loc.at,hn]⟩
theorem zvb {f:FuncId} {id:Nat} {t:TypeId} {n:Nat} {rows:List (List PV)} {rest:List HV} {L:List (Nat×zai)} {r:HV} {H':Nat->zai}
 (h:zan P f (.osl id n 0 rows.length::rest) (lk .free ((id,.live (.row t n rows))::L)) r H'):zan P f (.own id::rest) (lk .free ((id,.live (.row t n rows))::L)) r H':=by
 intro Γ m w vals hok hx h0;have hH:lk .free ((id,zai.live (.row t n rows))::L) id=.live (.row t n rows):=by rw [zkx,zbh]
 obtain ⟨l,hl,hbr,_⟩:=hok.live id _ hH;obtain ⟨h1,h2,h3⟩:=hbr;refine h Γ m w vals hok ?_ h0;simp only [zbf] at hx ⊢;obtain ⟨v,vs,rfl,hv,hvs⟩:=hx;refine ⟨v,vs,rfl,?_,hvs⟩;simp only [zbd] at hv ⊢;obtain ⟨l',hl',rfl⟩:=hv;rw [hl] at hl';cases hl';rcases h3 with ⟨hn,h3⟩ | ⟨hn,h4,h5,_⟩
 . subst h3
   exact ⟨l,none,hl,by simp,by simp [Loc.room,hn],by simp [hdr,hn,Loc.room],fun _=>by simp [Loc.at,hn]⟩
 . exact ⟨l,some ⟨l.blk,0,none⟩,hl,by simp [Loc.room,hn];exact h4,by simp [Loc.room,hn];exact h5,by simp [hdr,hn,h1,Loc.room],fun _=>by simp [Loc.at,hn]⟩
theorem zkb {f:FuncId} {args:List HV} {H:Nat->zai} {id d:Nat} {b:zjb} {t:TypeId} {n k:Nat} {rows:List (List PV)} {L:List (Nat×zai)}
 (h:zan P f args H (.osl id n 0 k) (lk .free ((id,.live b)::L))) (hb:b=.row t n rows\/∃ c,b=.buf t n rows c) (hk:k<=rows.length) (hd:lk .free L d=.free) (hid:d≠id) :
 zan P f args H (.own d) (lk .free ((id,.dead)::(d,.live (.row t n (rows.take k)))::L)):=by
 intro Γ m w vals hok hx h0;obtain ⟨hcf,hcalls⟩:=h Γ m w vals hok hx h0;refine ⟨hcf,hcalls.mono fun e w' he=>?_⟩;obtain ⟨v,m',rfl,hok',hv,hpin⟩:=he;have hH:lk .free ((id,zai.live b)::L) id=.live b:=by rw [zkx,zbh]
 have hdf:lk .free ((id,zai.live b)::L) d=.free:=by rw [zkx,zbm _ _ hid];exact hd
 obtain ⟨l,hl,hbr,_⟩:=hok'.live id _ hH;have heq:∀ y:zai,upd (upd (lk .free ((id,zai.live b)::L)) id .dead) d y=lk .free ((id,.dead)::(d,y)::L):=by
  intro y;rw [zkx,zkx,zkx,yxr,yda _ _ _ (Ne.symm hid)]
 simp only [zbd] at hv;obtain ⟨l',a,hl',g1,g2,rfl,g5⟩:=hv;rw [hl] at hl';cases hl';have g5:=g5 (.inr trivial);have hlt:((rows.take k)).length=k:=by simp;omega
 have hlens:(∀ r∈rows,r.length=n)/\(l.nil=true->rows=[])/\(l.nil=false->rows.length<=l.cap/\l.cap<=maxLen/\∃ arr:Array Value,w'.heap[l.blk]?=some (.cells arr t (0,0))/\arr.size=l.cap*n/\∀ (k:Nat) x,rows.flatten[k]?=some x->∃ cv,arr[k]?=some cv/\zic w' (RR Γ m' (lk .free ((id,zai.live b)::L)) w') x cv):=by
  rcases hb with rfl | ⟨c,rfl⟩
  . obtain ⟨q1,q2,q3⟩:=hbr
    refine ⟨q2,fun hn=>?_,fun hn=>?_⟩
    . rcases q3 with ⟨_,q3⟩ | ⟨q3,_⟩
      . exact q3
      . rw [hn] at q3;cases q3
    . rcases q3 with ⟨q3,_⟩ | ⟨_,q4,q5,q6⟩
      . rw [hn] at q3;cases q3
      . exact ⟨q4,q5,q6⟩
  . obtain ⟨q1,q2,q3,q4,q5,q6⟩:=hbr
    exact ⟨q3,(fun hn=>by rw [hn] at q1;cases q1),fun _=>⟨q4,q5,q6⟩⟩
 obtain ⟨c1,c2,c3⟩:=hlens;cases hn:l.nil with
 | true =>
  have hr0:=c2 hn;subst hr0;have hk0:k=0:=by simpa using hk
  subst hk0;have hdrop:=WS.drop hok' hH;have hf2:upd (lk .free ((id,zai.live b)::L)) id .dead d=.free:=(zbm _ _ hid).trans hdf;obtain ⟨m2,hws,hm2⟩:=WS.newNil hdrop.ok hf2 t n;rw [heq] at hws;refine ⟨_,m2,rfl,hws.ok,?_,fun i l hp hi=>(hdrop.ext.trans hws.ext) _ _ (hpin i l hp hi)⟩;simp only [zbd];refine ⟨_,hm2,?_⟩;rw [g5];simp [hdr,Loc.at,Loc.room,hn]
 | false =>
  obtain ⟨c4,c5,arr,c6,c7,c8⟩:=c3 hn;obtain ⟨m2,hws,hm2⟩:=WS.rename hok' hH hl hn hdf (b':=.row t n (rows.take k)) k (w':=w') rfl rfl rfl rfl (fun _ _=>rfl) fun m3 R' hext hkk =>
   ⟨by simp;omega,fun r hr=>c1 r (zy65 hr),.inr ⟨rfl,by simp;omega,c5,arr,c6,c7,fun j x hj=>by
    have:rows.flatten=(rows.take k).flatten++(rows.drop k).flatten:=by rw [<- zy84,zy31]
    have hj':rows.flatten[j]?=some x:=by rw [this,zy46 ((zy9.1 hj).1)];exact hj
    obtain ⟨cv,q1,q2⟩:=c8 j x hj';exact ⟨cv,q1,q2.mono hkk⟩⟩⟩
  rw [heq] at hws;refine ⟨_,m2,rfl,hws.ok,?_,fun i l hp hi=>hws.ext _ _ (hpin i l hp hi)⟩;simp only [zbd];refine ⟨_,hm2,?_⟩;rw [g5];simp [hdr,Loc.at,Loc.room,hn]
end
end Go.HL
namespace Go.HL
theorem ypq {b:Bool} {A B:Prop} (ha:A) (h:b=true:=by first | rfl | assumption | omega | (simp only [gt_iff_lt,ge_iff_le,zy43,zy28,zy15,zy77,ne_eq,zy5,bne_eq_false_iff_eq,zy2,zy8,zy6,zy12,zy67,zy38,zy44,zy47,zy148,Bool.not_eq_false,Decidable.not_not,Nat.cast_ofNat,zy126]<;>omega) | (simp<;>omega)):hif b A B:=zac h ha
theorem yyn {b:Bool} {A B:Prop} (hb:B) (h:b=false:=by first | rfl | assumption | omega | (simp only [gt_iff_lt,ge_iff_le,zy43,zy28,zy15,zy77,ne_eq,zy5,bne_eq_false_iff_eq,zy2,zy8,zy6,zy12,zy67,zy38,zy44,zy47,zy148,Bool.not_eq_false,Decidable.not_not,Nat.cast_ofNat,zy126]<;>omega) | (simp<;>omega)):hif b A B:=zab h hb
theorem zbi {s:HS} {n:Nat} {slots:List (Nat×HV)} {heap:List (Nat×zai)} (l:List (Nat×Option Nat))
 (h4:ywk (lkN l) s slots:=by repeat' (first | exact trivial | exact rfl | (refine ⟨⟨rfl,?_⟩,?_⟩) | (refine ⟨rfl,?_⟩) | (simp;done) | (simp;rfl)))
 (h5:ydh (lkN l) s heap:=by repeat' (first | exact trivial | exact rfl | exact .inl rfl | exact .inr rfl | (refine ⟨⟨rfl,.inl ⟨_,rfl,?_⟩⟩,?_⟩) | (refine ⟨⟨rfl,_,rfl,?_⟩,?_⟩) | (refine ⟨⟨rfl,.inr ⟨rfl,?_⟩⟩,?_⟩) | (refine ⟨rfl,?_⟩) | (simp;done) | (simp;rfl)))
 (hn:n=s.n:=by rfl) (hp:[]=s.pins:=by rfl) (h1:zhy heap l=true:=by rfl) (h2:zev (zlu heap l)=true:=by rfl):HLe s (hs n slots heap):=zcl l hn hp h1 h2 h4 h5
theorem zdj {s:HS} {pins:List Nat} {n:Nat} {slots:List (Nat×HV)} {heap:List (Nat×zai)} (l:List (Nat×Option Nat))
 (h4:ywk (lkN l) s slots:=by repeat' (first | exact trivial | exact rfl | (refine ⟨⟨rfl,?_⟩,?_⟩) | (refine ⟨rfl,?_⟩) | (simp;done) | (simp;rfl)))
 (h5:ydh (lkN l) s heap:=by repeat' (first | exact trivial | exact rfl | exact .inl rfl | exact .inr rfl | (refine ⟨⟨rfl,.inl ⟨_,rfl,?_⟩⟩,?_⟩) | (refine ⟨⟨rfl,_,rfl,?_⟩,?_⟩) | (refine ⟨⟨rfl,.inr ⟨rfl,?_⟩⟩,?_⟩) | (refine ⟨rfl,?_⟩) | (simp;done) | (simp;rfl)))
 (hn:n=s.n:=by rfl) (hp:pins=s.pins:=by rfl) (h1:zhy heap l=true:=by rfl) (h2:zev (zlu heap l)=true:=by rfl) (h3:zpy (lkN l) pins:=by repeat' (first | exact trivial | (refine ⟨rfl,?_⟩))):HLe s (hsP pins n slots heap):=ytp l hn hp h1 h2 h3 h4 h5
theorem zci {pins:List Nat} {v r:HV} {H2:Nat->zai} {heap:List (Nat×zai)} (l:List (Nat×Option Nat)) (h5:rn (lkN l) r=v:=by rfl)
 (h6:ydh (lkN l) (zth [v] 1 H2 pins) heap:=by repeat' (first | exact trivial | exact rfl | exact .inl rfl | exact .inr rfl | (refine ⟨⟨rfl,.inl ⟨_,rfl,?_⟩⟩,?_⟩) | (refine ⟨⟨rfl,_,rfl,?_⟩,?_⟩) | (refine ⟨⟨rfl,.inr ⟨rfl,?_⟩⟩,?_⟩) | (refine ⟨rfl,?_⟩) | (simp;done) | (simp;rfl)))
 (h1:zhy heap l=true:=by rfl) (h2:zev (zlu heap l)=true:=by rfl) (h3:zpy (lkN l) pins:=by repeat' (first | exact trivial | (refine ⟨rfl,?_⟩))) (h4:zjc (lkN l) r=true:=by rfl):xci pins v H2 r (lk .free heap):=zao l h1 h2 h3 h4 h5 h6
end Go.HL
namespace Go.HL
theorem om {P:Prop} (h:P:=by first | omega | (simp only [zy2,zy8,zy67,zy38,zy6,zy12]<;>omega) | (simp<;>omega)):P:=h
theorem dc {P:Prop} (h:P:=by first | rfl | assumption | omega | (simp only [gt_iff_lt,ge_iff_le,zy43,zy28,zy15,zy77,ne_eq,zy5,bne_eq_false_iff_eq,zy2,zy8,zy6,zy12,zy67,zy38,zy44,zy47,zy148,Bool.not_eq_false,Decidable.not_not,Nat.cast_ofNat,zy126]<;>omega) | (simp<;>omega)):P:=h
theorem sF {z:Int} {K:Int->Prop} {Q:Prop} (q:Q) (h1:-9223372036854775808<=z:=by exact om) (h2:z<=9223372036854775807:=by exact om) (e:Q->K z:=by (intro h;(conv=>whnf);(try (refine zhs.go ?_;conv=>whnf));exact h)):znp .i64 z K:=zaq (zbu h1 h2) (e q)
theorem sT {b:Bool} {A B Q:Prop} (q:Q) (h:b=true:=by exact dc) (e:Q->A:=by (intro h;(conv=>whnf);(try (refine zhs.go ?_;conv=>whnf));exact h)):hif b A B:=zac h (e q)
theorem sN {b:Bool} {A B Q:Prop} (q:Q) (h:b=false:=by exact dc) (e:Q->B:=by (intro h;(conv=>whnf);(try (refine zhs.go ?_;conv=>whnf));exact h)):hif b A B:=zab h (e q)
theorem sO {c k Q:Prop} (q:Q) (h:c:=by exact om) (e:Q->k:=by (intro h;(conv=>whnf);(try (refine zhs.go ?_;conv=>whnf));exact h)):znv c k:=zaa h (e q)
theorem sR {P Q:Prop} (q:Q) (e:Q->P:=by (intro h;(first | refine yua ?_ | refine zce ?_);(conv=>whnf);(try (refine zhs.go ?_;conv=>whnf));exact h)):P:=e q
theorem sD {P:Program} {s:HS} {all:Array Oper} {l:List Lab} {k Q:Prop} (q:Q) (e:Q->k:=by (intro h;(conv=>whnf);(try (refine zhs.go ?_;conv=>whnf));exact h)) (h:zjj all l=true:=by kernel_rfl):ypp P s all l k:=zaw h (e q)
theorem sFm {z:Int} {K:Int->Prop} {Q:Prop} (q:Q) (h1:-9223372036854775808<=z:=by exact om) (h2:z<=9223372036854775807:=by exact om) (e:Q->K z:=by (intro h;(conv=>whnf);exact h)):znp .i64 z K:=zaq (zbu h1 h2) (e q)
theorem sTm {b:Bool} {A B Q:Prop} (q:Q) (h:b=true:=by exact dc) (e:Q->A:=by (intro h;(conv=>whnf);exact h)):hif b A B:=zac h (e q)
theorem sNm {b:Bool} {A B Q:Prop} (q:Q) (h:b=false:=by exact dc) (e:Q->B:=by (intro h;(conv=>whnf);exact h)):hif b A B:=zab h (e q)
theorem sOm {c k Q:Prop} (q:Q) (h:c:=by exact om) (e:Q->k:=by (intro h;(conv=>whnf);exact h)):znv c k:=zaa h (e q)
theorem sRm {P Q:Prop} (q:Q) (e:Q->P:=by (intro h;(first | refine yua ?_ | refine zce ?_);(conv=>whnf);exact h)):P:=e q
theorem sDm {P:Program} {s:HS} {all:Array Oper} {l:List Lab} {k Q:Prop} (q:Q) (e:Q->k:=by (intro h;(conv=>whnf);exact h)) (h:zjj all l=true:=by kernel_rfl):ypp P s all l k:=zaw h (e q)
theorem sG {X:(HX->HS->Prop)->Prop} {Y:HWP} {K:HX->HS->Prop} {Q:Prop} (q:Q) (e:Q->X fun e s'=>match e with | .normal=>Y s' K | .exit id=>K (.exit id) s' | .ret=>K .ret s':=by (intro h;(conv=>whnf);exact h)):zhs X Y K:=.go (e q)
theorem cL {P Q:Prop} (q:Q) (e:Q->P:=by (intro h;refine zbg ?_;(conv=>whnf);exact h)):P:=e q
theorem cZ {P Q:Prop} (q:Q) (e:Q->P:=by (intro h;refine zgb ?_;(conv=>whnf);exact h)):P:=e q
theorem cP {P Q:Prop} (q:Q) (e:Q->P:=by (intro h;refine zdc ?_;(conv=>whnf);exact h)):P:=e q
theorem dL {α:Type} {A B K:α->Prop} {r:α} {Q:Prop} (c:A r) (q:Q) (s:B r:=by exact rfl) (e:Q->K r:=by (intro h;(conv=>whnf);(try (refine zhs.go ?_;conv=>whnf));exact h)):∃ r,A r/\B r/\K r:=⟨r,c,s,e q⟩
theorem dLm {α:Type} {A B K:α->Prop} {r:α} {Q:Prop} (c:A r) (q:Q) (s:B r:=by exact rfl) (e:Q->K r:=by (intro h;(conv=>whnf);exact h)):∃ r,A r/\B r/\K r:=⟨r,c,s,e q⟩
theorem dO {α β:Type} {A B K:α->β->Prop} {r:α} {t:β} {Q:Prop} (c:A r t) (q:Q) (s:B r t:=by exact ⟨zz60,rfl,rfl,rfl⟩) (e:Q->K r t:=by (intro h;(conv=>whnf);(try (refine zhs.go ?_;conv=>whnf));exact h)) :
 ∃ r t,A r t/\B r t/\K r t:=⟨r,t,c,s,e q⟩
theorem dOm {α β:Type} {A B K:α->β->Prop} {r:α} {t:β} {Q:Prop} (c:A r t) (q:Q) (s:B r t:=by exact ⟨zz60,rfl,rfl,rfl⟩) (e:Q->K r t:=by (intro h;(conv=>whnf);exact h)) :
 ∃ r t,A r t/\B r t/\K r t:=⟨r,t,c,s,e q⟩
theorem dG {α β γ δ:Type} {A B K:α->β->γ->δ->Prop} {a:α} {b:β} {r:γ} {t:δ} {Q:Prop} (c:A a b r t) (q:Q)
 (s:B a b r t:=by exact ⟨rfl,rfl,rfl,(by repeat' (first | exact trivial | (refine ⟨zz1,?_⟩))),zz60,rfl,rfl,rfl⟩)
 (e:Q->K a b r t:=by (intro h;(conv=>whnf);(try (refine zhs.go ?_;conv=>whnf));exact h)):∃ a b r t,A a b r t/\B a b r t/\K a b r t:=⟨a,b,r,t,c,s,e q⟩
theorem dGm {α β γ δ:Type} {A B K:α->β->γ->δ->Prop} {a:α} {b:β} {r:γ} {t:δ} {Q:Prop} (c:A a b r t) (q:Q)
 (s:B a b r t:=by exact ⟨rfl,rfl,rfl,(by repeat' (first | exact trivial | (refine ⟨zz1,?_⟩))),zz60,rfl,rfl,rfl⟩)
 (e:Q->K a b r t:=by (intro h;(conv=>whnf);exact h)):∃ a b r t,A a b r t/\B a b r t/\K a b r t:=⟨a,b,r,t,c,s,e q⟩
theorem z0 {P:Prop} (h:P:=by first | exact trivial | exact rfl | exact .inl rfl | exact .inr rfl):P:=h
theorem z2 {P:Prop} (h:P:=by first | (simp;done) | (simp;rfl)):P:=h
theorem z1 {P Q:Prop} (q:Q) (e:Q->P:=by first | exact fun h=>.inl ⟨_,rfl,h⟩ | exact fun h=>⟨_,rfl,h⟩ | exact fun h=>.inr ⟨rfl,h⟩):P:=e q
abbrev pK5 (l:List (Nat×Option Nat)):List (Nat×Option Nat):=(1000,some 1000)::(1001,some 1001)::(1002,some 1002)::(1003,some 1003)::(1004,some 1004)::l
abbrev pK7 (l:List (Nat×Option Nat)):List (Nat×Option Nat):=(1000,some 1000)::(1001,some 1001)::(1002,some 1002)::(1003,some 1003)::(1004,some 1004)::(1005,some 1005)::(1006,some 1006)::l
abbrev pK8 (l:List (Nat×Option Nat)):List (Nat×Option Nat):=(1000,some 1000)::(1001,some 1001)::(1002,some 1002)::(1003,some 1003)::(1004,some 1004)::(1005,some 1005)::(1006,some 1006)::(1007,some 1007)::l
abbrev pK9 (l:List (Nat×Option Nat)):List (Nat×Option Nat):=(1000,some 1000)::(1001,some 1001)::(1002,some 1002)::(1003,some 1003)::(1004,some 1004)::(1005,some 1005)::(1006,some 1006)::(1007,some 1007)::(1008,some 1008)::l
abbrev zhz (l:List (Nat×Option Nat)):List (Nat×Option Nat):=(1000,some 1000)::(1001,some 1001)::(1002,some 1002)::(1003,some 1003)::(1004,some 1004)::(1005,some 1005)::(1006,some 1006)::(1007,some 1007)::(1008,some 1008)::(1009,some 1009)::l
abbrev pJ3 (l:List (Nat×Option Nat)):List (Nat×Option Nat):=(900,some 900)::(901,some 901)::(902,some 902)::l
abbrev pJ6 (l:List (Nat×Option Nat)):List (Nat×Option Nat):=(900,some 900)::(901,some 901)::(902,some 902)::(903,some 903)::(904,some 904)::(905,some 905)::l
abbrev pJ7 (l:List (Nat×Option Nat)):List (Nat×Option Nat):=(900,some 900)::(901,some 901)::(902,some 902)::(903,some 903)::(904,some 904)::(905,some 905)::(906,some 906)::l
abbrev pJ8 (l:List (Nat×Option Nat)):List (Nat×Option Nat):=(900,some 900)::(901,some 901)::(902,some 902)::(903,some 903)::(904,some 904)::(905,some 905)::(906,some 906)::(907,some 907)::l
theorem zaz {s:HS} {n:Nat} {slots:List (Nat×HV)} {heap:List (Nat×zai)} (l:List (Nat×Option Nat)) (h:ywk (lkN l) s slots/\ydh (lkN l) s heap)
 (hn:n=s.n:=by rfl) (hp:[]=s.pins:=by rfl) (h1:zhy heap l=true:=by rfl) (h2:zev (zlu heap l)=true:=by rfl):HLe s (hs n slots heap):=zcl l hn hp h1 h2 h.1 h.2
theorem zcb {s:HS} {pins:List Nat} {n:Nat} {slots:List (Nat×HV)} {heap:List (Nat×zai)} (l:List (Nat×Option Nat)) (h:ywk (lkN l) s slots/\ydh (lkN l) s heap)
 (hn:n=s.n:=by rfl) (hp:pins=s.pins:=by rfl) (h1:zhy heap l=true:=by rfl) (h2:zev (zlu heap l)=true:=by rfl) (h3:zpy (lkN l) pins:=by repeat' (first | exact trivial | (refine ⟨rfl,?_⟩))):HLe s (hsP pins n slots heap):=ytp l hn hp h1 h2 h3 h.1 h.2
theorem zcx {pins:List Nat} {v r:HV} {H2:Nat->zai} {heap:List (Nat×zai)} (l:List (Nat×Option Nat)) (h:rn (lkN l) r=v/\ydh (lkN l) (zth [v] 1 H2 pins) heap)
 (h1:zhy heap l=true:=by rfl) (h2:zev (zlu heap l)=true:=by rfl) (h3:zpy (lkN l) pins:=by repeat' (first | exact trivial | (refine ⟨rfl,?_⟩))) (h4:zjc (lkN l) r=true:=by rfl):xci pins v H2 r (lk .free heap):=zao l h1 h2 h3 h4 h.1 h.2
end Go.HL
namespace Go.HL
theorem zog (fz:List Nat) {s:HS} {pins:List Nat} {n:Nat} {slots:List (Nat×HV)} {heap:List (Nat×zai)} (l:List (Nat×Option Nat)) (h:ywk (lkN l) (fzS fz s) slots/\ydh (lkN l) (fzS fz s) heap)
 (hn:n=s.n:=by rfl) (hp:pins=s.pins:=by rfl) (h1:zhy heap l=true:=by rfl) (h2:zev (zlu heap l)=true:=by rfl) (h3:zpy (lkN l) pins:=by repeat' (first | exact trivial | (refine ⟨rfl,?_⟩))):HLe s (hsP pins n slots heap):=⟨fz,yto l hn hp h1 h2 h3 h.1 h.2⟩
end Go.HL
namespace Go.Proofs.YticmofoeecjnhaaGreat
open Go.HL Go.ChangeShapes Go.WideShapes Go.ChangeAt Go.RowKit
theorem own:ownKnob Tryz.prog.godebug=none:=by kernel_rfl
mutual
theorem yag {H:Type}:(d:DataW H)->Rows.uptoBulk d=dwb d
 | .lit l=>by cases l<;>simp only [Rows.uptoBulk,dwb]
 | .nil=>by simp only [Rows.uptoBulk,dwb]
 | .ptr d=>by simp only [Rows.uptoBulk,dwb,yag d]
 | .slice a b=>by simp only [Rows.uptoBulk,dwb,zjx a,zjx b]
 | .agg p=>by simp only [Rows.uptoBulk,dwb,zjx p]
 | .iface _ d=>by simp only [Rows.uptoBulk,dwb,yag d]
 | .map e=>by simp only [Rows.uptoBulk,dwb,ylo e]
 | .held _=>by simp only [Rows.uptoBulk,dwb]
theorem zjx {H:Type}:(l:List (DataW H))->Rows.uptoBulkAll l=zsm l
 | []=>by simp only [Rows.uptoBulkAll,zsm]
 | d::r=>by simp only [Rows.uptoBulkAll,zsm,yag d,zjx r]
theorem ylo {H:Type}:(l:List (Lit×DataW H))->Rows.uptoBulkEntries l=xfp l
 | []=>by simp only [Rows.uptoBulkEntries,xfp]
 | d::r=>by simp only [Rows.uptoBulkEntries,xfp,ysj d,ylo r]
theorem ysj {H:Type}:(x:Lit×DataW H)->Rows.uptoBulkEntry x=xcx x
 | (l,d)=>by cases l<;>simp only [Rows.uptoBulkEntry,xcx,yag d]
end
theorem yix {H:Type} (l r:List (DataW H)):zsm (l++r)=zsm l+zsm r:=by
 induction l with
 | nil=>simp [zsm]
 | cons x l ih=>simp only [zy40,zsm,ih];omega
theorem xfq {H:Type} {ds gs:List (DataW H)} (hk:Rows.uptoSmall H (ds++gs)=true):zsm ds<=1048576:=by
 have h:=zy24 hk;rw [zjx,yix] at h;omega
theorem xff {a b:Bool} (ha:a=true) (hb:b=true):(a&&b)=true:=by rw [ha,hb];rfl
end Go.Proofs.YticmofoeecjnhaaGreat
namespace Go.HL
theorem mixed:Tryz.prog.follows .mixedOrders=true:=by kernel_rfl
structure Span where
 lo:Int
 hi:Int
def Span.row (x:Span):List PV:=[pi x.lo,pi x.hi]
def Span.hv (x:Span):HV:=.agg [.p (pi x.lo),.p (pi x.hi)]
structure zdw where
 stream:Int
 mid:Int
 ordered:Bool
def zdw.row (x:zdw):List PV:=[pi x.stream,pi x.mid,pb x.ordered]
def zdw.hv (x:zdw):HV:=.agg [.p (pi x.stream),.p (pi x.mid),.p (pb x.ordered)]
structure Chunk where
 kind:Int
 tag:Int
 stream:Int
 mid:Int
 part:Int
 last:Bool
 ordered:Bool
 data:List UInt8
 zas:List Span
 room:Int
 zbr:List zdw
def Chunk.row (x:Chunk):List PV:=[pi x.kind,pi x.tag,pi x.stream,pi x.mid,pi x.part,pb x.last,pb x.ordered,.sl 1 (x.data.map zcp),.sl 2 (x.zas.map Span.row),pi x.room,.sl 3 (x.zbr.map zdw.row)]
def Chunk.cells (x:Chunk):List HV:=[.p (pi x.kind),.p (pi x.tag),.p (pi x.stream),.p (pi x.mid),.p (pi x.part),.p (pb x.last),.p (pb x.ordered),.p (.sl 1 (x.data.map zcp)),.p (.sl 2 (x.zas.map Span.row)),.p (pi x.room),.p (.sl 3 (x.zbr.map zdw.row))]
def Chunk.hv (x:Chunk):HV:=.agg [.p (pi x.kind),.p (pi x.tag),.p (pi x.stream),.p (pi x.mid),.p (pi x.part),.p (pb x.last),.p (pb x.ordered),.p (.sl 1 (x.data.map zcp)),.p (.sl 2 (x.zas.map Span.row)),.p (pi x.room),.p (.sl 3 (x.zbr.map zdw.row))]
structure Config where
 streams:Int
 part:Int
 packet:Int
 paths:Int
 turns:Int
 waiting:Int
 first:Int
def Config.cells (x:Config):List HV:=[.p (pi x.streams),.p (pi x.part),.p (pi x.packet),.p (pi x.paths),.p (pi x.turns),.p (pi x.waiting),.p (pi x.first)]
def Config.hv (x:Config):HV:=.agg [.p (pi x.streams),.p (pi x.part),.p (pi x.packet),.p (pi x.paths),.p (pi x.turns),.p (pi x.waiting),.p (pi x.first)]
structure Message where
 stream:Int
 ordered:Bool
 life:Int
 tries:Int
 data:List UInt8
def Message.row (x:Message):List PV:=[pi x.stream,pb x.ordered,pi x.life,pi x.tries,.sl 1 (x.data.map zcp)]
def Message.cells (x:Message):List HV:=[.p (pi x.stream),.p (pb x.ordered),.p (pi x.life),.p (pi x.tries),.p (.sl 1 (x.data.map zcp))]
def Message.hv (x:Message):HV:=.agg [.p (pi x.stream),.p (pb x.ordered),.p (pi x.life),.p (pi x.tries),.p (.sl 1 (x.data.map zcp))]
structure Message.Wf (x:Message):Prop where
 stream:inI x.stream
 life:inI x.life
 tries:inI x.tries
theorem ykn {n:Nat} {pvs:List PV} (h:shp Tryz.prog n 48 pvs):∃ x:Message,pvs=x.row/\x.Wf:=by
 have t0:=zzf Tryz.underlying48 h;obtain ⟨a1,b1,e1,h1,t1⟩:=zgs t0;obtain ⟨a2,b2,e2,h2,t2⟩:=zgs t1;obtain ⟨a3,b3,e3,h3,t3⟩:=zgs t2;obtain ⟨a4,b4,e4,h4,t4⟩:=zgs t3;obtain ⟨a5,b5,e5,h5,t5⟩:=zgs t4;obtain ⟨z1,i1,w1⟩:=zoo Tryz.underlying3 h1;obtain ⟨z2,i2⟩:=yof Tryz.underlying4 h2;obtain ⟨z3,i3,w3⟩:=zoo Tryz.underlying3 h3;obtain ⟨z4,i4,w4⟩:=zoo Tryz.underlying3 h4;obtain ⟨z5,i5⟩:=zwf Tryz.underlying46 Tryz.underlying5 (by kernel_rfl) h5;have e6:b5=[]:=t5;rw [e1,e2,e3,e4,e5,e6,i1,i2,i3,i4,i5];exact ⟨⟨z1,z2,z3,z4,z5⟩,rfl,⟨zyi w1,zyi w3,zyi w4⟩⟩
structure zak where
 id:Int
 mid:Int
 came:Int
 sent:Int
 parts:Int
 message:Message
def zak.row (x:zak):List PV:=[pi x.id,pi x.mid,pi x.came,pi x.sent,pi x.parts,pi x.message.stream,pb x.message.ordered,pi x.message.life,pi x.message.tries,.sl 1 (x.message.data.map zcp)]
def zak.cells (x:zak):List HV:=[.p (pi x.id),.p (pi x.mid),.p (pi x.came),.p (pi x.sent),.p (pi x.parts),.p (pi x.message.stream),.p (pb x.message.ordered),.p (pi x.message.life),.p (pi x.message.tries),.p (.sl 1 (x.message.data.map zcp))]
def zak.hv (x:zak):HV:=.agg [.p (pi x.id),.p (pi x.mid),.p (pi x.came),.p (pi x.sent),.p (pi x.parts),.p (pi x.message.stream),.p (pb x.message.ordered),.p (pi x.message.life),.p (pi x.message.tries),.p (.sl 1 (x.message.data.map zcp))]
structure zhr where
 last:Int
 hand:Int
 had:List Int
def zhr.row (x:zhr):List PV:=[pi x.last,pi x.hand,.sl 1 (x.had.map (fun n=>[pi n]))]
def zhr.cells (x:zhr):List HV:=[.p (pi x.last),.p (pi x.hand),.p (.sl 1 (x.had.map (fun n=>[pi n])))]
def zhr.hv (x:zhr):HV:=.agg [.p (pi x.last),.p (pi x.hand),.p (.sl 1 (x.had.map (fun n=>[pi n])))]
structure zbo where
 number:Int
 id:Int
 state:Int
 path:Int
 missed:Int
 times:Int
 came:Int
 life:Int
 tries:Int
 chunk:Chunk
def zbo.row (x:zbo):List PV:=[pi x.number,pi x.id,pi x.state,pi x.path,pi x.missed,pi x.times,pi x.came,pi x.life,pi x.tries,pi x.chunk.kind,pi x.chunk.tag,pi x.chunk.stream,pi x.chunk.mid,pi x.chunk.part,pb x.chunk.last,pb x.chunk.ordered,.sl 1 (x.chunk.data.map zcp),.sl 2 (x.chunk.zas.map Span.row),pi x.chunk.room,.sl 3 (x.chunk.zbr.map zdw.row)]
def zbo.hv (x:zbo):HV:=.agg [.p (pi x.number),.p (pi x.id),.p (pi x.state),.p (pi x.path),.p (pi x.missed),.p (pi x.times),.p (pi x.came),.p (pi x.life),.p (pi x.tries),.p (pi x.chunk.kind),.p (pi x.chunk.tag),.p (pi x.chunk.stream),.p (pi x.chunk.mid),.p (pi x.chunk.part),.p (pb x.chunk.last),.p (pb x.chunk.ordered),.p (.sl 1 (x.chunk.data.map zcp)),.p (.sl 2 (x.chunk.zas.map Span.row)),.p (pi x.chunk.room),.p (.sl 3 (x.chunk.zbr.map zdw.row))]
structure Path where
 window:Int
 slow:Int
 gathered:Int
 zba:Int
 errors:Int
 zcs:Int
 wait:Int
def Path.row (x:Path):List PV:=[pi x.window,pi x.slow,pi x.gathered,pi x.zba,pi x.errors,pi x.zcs,pi x.wait]
def Path.cells (x:Path):List HV:=[.p (pi x.window),.p (pi x.slow),.p (pi x.gathered),.p (pi x.zba),.p (pi x.errors),.p (pi x.zcs),.p (pi x.wait)]
def Path.hv (x:Path):HV:=.agg [.p (pi x.window),.p (pi x.slow),.p (pi x.gathered),.p (pi x.zba),.p (pi x.errors),.p (pi x.zcs),.p (pi x.wait)]
structure zav where
 number:Int
 chunk:Chunk
def zav.row (x:zav):List PV:=[pi x.number,pi x.chunk.kind,pi x.chunk.tag,pi x.chunk.stream,pi x.chunk.mid,pi x.chunk.part,pb x.chunk.last,pb x.chunk.ordered,.sl 1 (x.chunk.data.map zcp),.sl 2 (x.chunk.zas.map Span.row),pi x.chunk.room,.sl 3 (x.chunk.zbr.map zdw.row)]
def zav.hv (x:zav):HV:=.agg [.p (pi x.number),.p (pi x.chunk.kind),.p (pi x.chunk.tag),.p (pi x.chunk.stream),.p (pi x.chunk.mid),.p (pi x.chunk.part),.p (pb x.chunk.last),.p (pb x.chunk.ordered),.p (.sl 1 (x.chunk.data.map zcp)),.p (.sl 2 (x.chunk.zas.map Span.row)),.p (pi x.chunk.room),.p (.sl 3 (x.chunk.zbr.map zdw.row))]
structure zax where
 stream:Int
 mid:Int
 ordered:Bool
 data:List UInt8
def zax.row (x:zax):List PV:=[pi x.stream,pi x.mid,pb x.ordered,.sl 1 (x.data.map zcp)]
def zax.cells (x:zax):List HV:=[.p (pi x.stream),.p (pi x.mid),.p (pb x.ordered),.p (.sl 1 (x.data.map zcp))]
structure zax.Wf (x:zax):Prop where
 stream:inI x.stream
 mid:inI x.mid
theorem ykm {n:Nat} {pvs:List PV} (h:shp Tryz.prog n 56 pvs):∃ x:zax,pvs=x.row/\x.Wf:=by
 have t0:=zzf Tryz.underlying56 h;obtain ⟨a1,b1,e1,h1,t1⟩:=zgs t0;obtain ⟨a2,b2,e2,h2,t2⟩:=zgs t1;obtain ⟨a3,b3,e3,h3,t3⟩:=zgs t2;obtain ⟨a4,b4,e4,h4,t4⟩:=zgs t3;obtain ⟨z1,i1,w1⟩:=zoo Tryz.underlying3 h1;obtain ⟨z2,i2,w2⟩:=zoo Tryz.underlying3 h2;obtain ⟨z3,i3⟩:=yof Tryz.underlying4 h3;obtain ⟨z4,i4⟩:=zwf Tryz.underlying46 Tryz.underlying5 (by kernel_rfl) h4;have e5:b4=[]:=t4;rw [e1,e2,e3,e4,e5,i1,i2,i3,i4];exact ⟨⟨z1,z2,z3,z4⟩,rfl,⟨zyi w1,zyi w2⟩⟩
structure Receiver where
 config:Config
 cum:Int
 zas:List Span
 pieces:List zav
 zbp:List Int
 log:List zax
def Receiver.hv (x:Receiver):HV:=.agg [.p (pi x.config.streams),.p (pi x.config.part),.p (pi x.config.packet),.p (pi x.config.paths),.p (pi x.config.turns),.p (pi x.config.waiting),.p (pi x.config.first),.p (pi x.cum),.p (.sl 2 (x.zas.map Span.row)),.p (.sl 12 (x.pieces.map zav.row)),.p (.sl 1 (x.zbp.map (fun n=>[pi n]))),.p (.sl 4 (x.log.map zax.row))]
structure zau where
 path:Int
 back:Bool
 bytes:List UInt8
def zau.row (x:zau):List PV:=[pi x.path,pb x.back,.sl 1 (x.bytes.map zcp)]
def zau.cells (x:zau):List HV:=[.p (pi x.path),.p (pb x.back),.p (.sl 1 (x.bytes.map zcp))]
def zau.hv (x:zau):HV:=.agg [.p (pi x.path),.p (pb x.back),.p (.sl 1 (x.bytes.map zcp))]
structure zah where
 config:Config
 clock:Int
 queue:List zak
 sched:zhr
 out:List zbo
 paths:List Path
 cum:Int
 next:Int
 room:Int
 mids:List Int
 fates:List Int
 forward:Bool
 recover:Int
def zah.hv (x:zah):HV:=.agg [.p (pi x.config.streams),.p (pi x.config.part),.p (pi x.config.packet),.p (pi x.config.paths),.p (pi x.config.turns),.p (pi x.config.waiting),.p (pi x.config.first),.p (pi x.clock),.p (.sl 10 (x.queue.map zak.row)),.p (pi x.sched.last),.p (pi x.sched.hand),.p (.sl 1 (x.sched.had.map (fun n=>[pi n]))),.p (.sl 20 (x.out.map zbo.row)),.p (.sl 7 (x.paths.map Path.row)),.p (pi x.cum),.p (pi x.next),.p (pi x.room),.p (.sl 1 (x.mids.map (fun n=>[pi n]))),.p (.sl 1 (x.fates.map (fun n=>[pi n]))),.p (pb x.forward),.p (pi x.recover)]
structure zem where
 sender:zah
 receiver:Receiver
 way:List zau
def zem.cells (x:zem):List HV:=[.p (pi x.sender.config.streams),.p (pi x.sender.config.part),.p (pi x.sender.config.packet),.p (pi x.sender.config.paths),.p (pi x.sender.config.turns),.p (pi x.sender.config.waiting),.p (pi x.sender.config.first),.p (pi x.sender.clock),.p (.sl 10 (x.sender.queue.map zak.row)),.p (pi x.sender.sched.last),.p (pi x.sender.sched.hand),.p (.sl 1 (x.sender.sched.had.map (fun n=>[pi n]))),.p (.sl 20 (x.sender.out.map zbo.row)),.p (.sl 7 (x.sender.paths.map Path.row)),.p (pi x.sender.cum),.p (pi x.sender.next),.p (pi x.sender.room),.p (.sl 1 (x.sender.mids.map (fun n=>[pi n]))),.p (.sl 1 (x.sender.fates.map (fun n=>[pi n]))),.p (pb x.sender.forward),.p (pi x.sender.recover),.p (pi x.receiver.config.streams),.p (pi x.receiver.config.part),.p (pi x.receiver.config.packet),.p (pi x.receiver.config.paths),.p (pi x.receiver.config.turns),.p (pi x.receiver.config.waiting),.p (pi x.receiver.config.first),.p (pi x.receiver.cum),.p (.sl 2 (x.receiver.zas.map Span.row)),.p (.sl 12 (x.receiver.pieces.map zav.row)),.p (.sl 1 (x.receiver.zbp.map (fun n=>[pi n]))),.p (.sl 4 (x.receiver.log.map zax.row)),.p (.sl 3 (x.way.map zau.row))]
def zem.hv (x:zem):HV:=.agg [.p (pi x.sender.config.streams),.p (pi x.sender.config.part),.p (pi x.sender.config.packet),.p (pi x.sender.config.paths),.p (pi x.sender.config.turns),.p (pi x.sender.config.waiting),.p (pi x.sender.config.first),.p (pi x.sender.clock),.p (.sl 10 (x.sender.queue.map zak.row)),.p (pi x.sender.sched.last),.p (pi x.sender.sched.hand),.p (.sl 1 (x.sender.sched.had.map (fun n=>[pi n]))),.p (.sl 20 (x.sender.out.map zbo.row)),.p (.sl 7 (x.sender.paths.map Path.row)),.p (pi x.sender.cum),.p (pi x.sender.next),.p (pi x.sender.room),.p (.sl 1 (x.sender.mids.map (fun n=>[pi n]))),.p (.sl 1 (x.sender.fates.map (fun n=>[pi n]))),.p (pb x.sender.forward),.p (pi x.sender.recover),.p (pi x.receiver.config.streams),.p (pi x.receiver.config.part),.p (pi x.receiver.config.packet),.p (pi x.receiver.config.paths),.p (pi x.receiver.config.turns),.p (pi x.receiver.config.waiting),.p (pi x.receiver.config.first),.p (pi x.receiver.cum),.p (.sl 2 (x.receiver.zas.map Span.row)),.p (.sl 12 (x.receiver.pieces.map zav.row)),.p (.sl 1 (x.receiver.zbp.map (fun n=>[pi n]))),.p (.sl 4 (x.receiver.log.map zax.row)),.p (.sl 3 (x.way.map zau.row))]
structure Step where
 kind:Int
 n:Int
 message:Message
def Step.row (x:Step):List PV:=[pi x.kind,pi x.n,pi x.message.stream,pb x.message.ordered,pi x.message.life,pi x.message.tries,.sl 1 (x.message.data.map zcp)]
def Step.hv (x:Step):HV:=.agg [.p (pi x.kind),.p (pi x.n),.p (pi x.message.stream),.p (pb x.message.ordered),.p (pi x.message.life),.p (pi x.message.tries),.p (.sl 1 (x.message.data.map zcp))]
structure Answer where
 err:Int
 n:Int
def Answer.row (x:Answer):List PV:=[pi x.err,pi x.n]
def Answer.hv (x:Answer):HV:=.agg [.p (pi x.err),.p (pi x.n)]
end Go.HL
namespace Go.HL
theorem zha {rows:List (List PV)} {o n o' n':Nat} {K:List (List PV)->Prop} (ho:o=o') (hn:n=n') (h:zre rows o' n' K):zre rows o n K:=by subst ho;subst hn;exact h
theorem zui {z:Int} (h1:0<=z) (h2:z<18446744073709551616):IntKind.u64.wrap z=z:=by
 unfold IntKind.wrap;simp [IntKind.bits,IntKind.signed];omega
theorem zbv {k:IntKind} {z z':Int} {K:Int->Prop} (h:k.wrap z=z') (hk:K z'):znp k z K:=⟨z',h.symm,hk⟩
theorem yua {z:Int} {K:Int->Prop} (h:K (W z)):znp .i64 z K:=⟨_,rfl,h⟩
theorem zej {α:Type} {t n:Nat} {f:α->List PV} {a b:List α} {x:α} (h:a++[x]=b):zai.live (.row t n (b.map f))=zai.live (.row t n (a.map f++[f x])):=by
 rw [<- h,zy33];rfl
theorem zbc {α:Type} {t n:Nat} {f:α->List PV} {a b:List α} {x:α} {r:List PV} (h:b=a++[x]) (hr:f x=r):zai.live (.row t n (a.map f++[r]))=zai.live (.row t n (b.map f)):=by
 rw [h,zy33,<- hr];rfl
theorem zaj {α:Type} {f:α->List PV} {l a b:List α} {s:α} {z:Int} {K:List PV->Prop} (h:l=a++s::b) (hz:z=a.length) (hk:K (f s)):zpn (l.map f) z K:=by
 subst h;exact ⟨_,by omega,by rw [hz,zy22,zy17,zy45 (zy23 _)];simp,hk⟩
theorem zeg {α:Type} {t n:Nat} {f:α->List PV} {a b:List α} {x y:α} {k:Nat} {r:List PV} (hk:k=a.length) (hr:f y=r) :
 zai.live (.row t n ((a++y::b).map f))=zai.live (.row t n (((a++x::b).map f).set k r)):=by
 subst hk;subst hr;have:((a++x::b).map f).set a.length (f y)=(a++y::b).map f:=by
  induction a with
  | nil=>rfl
  | cons z a ih=>simp only [zy40,zy35,zy6,zy140];rw [ih]
 rw [this]
theorem zcg {rows:List (List PV)} {k:Nat} {r:List PV} {z:Int} {K:List PV->Prop} (hz:z=k) (h:k<rows.length) (hk:K r):zpn (rows.set k r) z K :=
 ⟨r,by omega,by rw [hz,zy22,zy41 h],hk⟩
theorem xal {α:Type} {t n:Nat} {f:α->List PV} {a b:List α} {x y:α} {k:Nat} {r r':List PV} (hk:k=a.length) (hr:f y=r) :
 zai.live (.row t n ((a++y::b).map f))=zai.live (.row t n ((((a++x::b).map f).set k r').set k r)):=by
 rw [zy141];exact zeg hk hr
theorem zbn {α:Type} {l a:List α} (h:l=a++[]):l.length=a.length:=by rw [h];simp
theorem zbe {α:Type} {l a b:List α} {s:α} (h:l=a++s::b):l.length=a.length+b.length+1:=by rw [h];simp;omega
theorem zag {α:Type} {l a b:List α} {s:α} (h:l=a++s::b):l=(a++[s])++b:=by rw [h];simp
theorem zgf {α:Type} {l a b:List α} {s:α} (h:l=a++s::b):s∈l:=by rw [h];simp
theorem yng {α:Type} {f:α->List PV} (hf:∀ x,1<=zgy (f x)) (l:List α):l.length<=zks (l.map f):=by
 have:=ylp (rows:=l.map f) (fun r hr=>by obtain ⟨p,_,rfl⟩:=zy36.1 hr;exact hf p)
 rwa [zy2] at this
theorem zar {t n:Nat} {a b:List (List PV)} (h:a=b):zai.live (.row t n a)=zai.live (.row t n b):=by rw [h]
theorem zbk {a b:Int} (h:a=b):i64 a=i64 b:=by rw [h]
theorem zcn {P:Program} {f:FuncId} {fn:Func} (_:P.funcs[f]?=some fn) {args:List HV} {r r':HV} {L:List (Nat×zai)} (h:zan P f args zad r (lk .free L))
 (hk:zgp (lk .free L) r fun y _=>zuz (zoj P fn.resultTypes.toList y) fun y=>y=r'):zan P f args zad r' zad:=by
 intro Γ m w vals hok hargs h0;obtain ⟨h1,h2⟩:=h Γ m w vals hok hargs h0;refine ⟨h1,h2.mono fun e w' he=>?_⟩;obtain ⟨v,m',rfl,hok',hv,hp⟩:=he;obtain ⟨y,us,hy,hview⟩:=zkh _ hk;rw [zva] at hy;subst hy;have hws:=WS.frz hok' hview.frz;have hy:=hview.rep m' w' _ v (WS.kept hview.frz hws.ok) (hws.rep hv);have hRn:∀ b,RR Γ m' (zek (lk .free L) us) w' b->RR Γ (fun _=>none) zad w' b:=fun b hb=>⟨hb.1,hb.2.1,ybn⟩
 refine ⟨v,fun _=>none,rfl,⟨hok'.size,hok'.os,hok'.tape,hok'.output,hok'.frame,fun _ _=>rfl,(fun id b hb=>by cases hb),(fun id b hb=>by cases hb),(fun id id' b b' l l' hb=>by cases hb),hok'.dom⟩,?_,fun id l _ hl=>?_⟩
 . refine zbd.zoj _ ?_
   refine yob (σ:=zro) (m:=m') (R:=RR Γ m' (zek (lk .free L) us) w') (fun i j hj=>by cases hj) (fun i hj=>by cases hj) hRn _ v hview.noid ?_;rw [ybv _ hview.noid];exact hy
 . rw [hok.free id rfl] at hl;cases hl
theorem zcd {X:HS->(HX->HS->Prop)->Prop} {s:HS} {Q:HX->HS->Prop} (h:∀ Q':HX->HS->Prop,(∀ e s',Q e s'->Q' e s')->X s Q'):X s Q:=h Q fun _ _ h=>h
end Go.HL
namespace Go.HL
namespace Srt
section
variable {α:Type} (key:α->Int)
def ins (x:α):List α->List α
 | []=>[x]
 | y::r=>if key x<=key y then x::y::r else y::ins x r
def srt:List α->List α
 | []=>[]
 | x::r=>ins key x (srt r)
def mrg:List α->List α->List α
 | [],v=>v
 | x::u,[]=>x::u
 | x::u,y::v=>if key x<=key y then x::mrg u (y::v) else y::mrg (x::u) v
termination_by u v=>u.length+v.length
def Sd:List α->Prop
 | []=>True
 | x::r=>(∀ y∈r,key x<=key y)/\Sd r
variable {key}
theorem yud {x z:α}:∀ {l:List α},z∈ins key x l↔z=x\/z∈l
 | []=>by simp [ins]
 | y::r=>by
  rw [ins];split
  . simp
  . simp only [zy13,yud (l:=r)]
    constructor
    . rintro (h | h | h)
      . exact .inr (.inl h)
      . exact .inl h
      . exact .inr (.inr h)
    . rintro (h | h | h)
      . exact .inr (.inl h)
      . exact .inl h
      . exact .inr (.inr h)
theorem ymz {x:α}:∀ {l:List α},(ins key x l).Perm (x::l)
 | []=>List.Perm.refl _
 | y::r=>by
  rw [ins];split
  . exact List.Perm.refl _
  . exact ((ymz (l:=r)).cons y).trans (List.Perm.swap x y r)
theorem zql:∀ {l:List α},(srt key l).Perm l
 | []=>List.Perm.refl _
 | x::r=>ymz.trans ((zql (l:=r)).cons x)
theorem zkp (l:List α):(srt key l).length=l.length:=zql.length_eq
theorem xbo {x:α}:∀ {l:List α},Sd key l->Sd key (ins key x l)
 | [],_=>by simp [ins,Sd]
 | y::r,h=>by
  rw [ins];split
  . rename_i c
    refine ⟨fun z hz=>?_,h⟩;rcases zy13.1 hz with rfl | hz
    . exact c
    . exact Int.le_trans c (h.1 z hz)
  . rename_i c
    refine ⟨fun z hz=>?_,xbo h.2⟩;rcases yud.1 hz with rfl | hz
    . omega
    . exact h.1 z hz
theorem ztf:∀ {l:List α},Sd key (srt key l)
 | []=>trivial
 | _::r=>xbo (ztf (l:=r))
theorem zoh:∀ (u:List α),mrg key u []=u
 | []=>by rw [mrg]
 | x::u=>by rw [mrg]
theorem yuo (x:α):∀ (v:List α),mrg key [x] v=ins key x v
 | []=>by rw [mrg,ins]
 | y::v=>by
  rw [mrg,ins];split
  . rw [mrg]
  . rw [yuo x v]
theorem yuc {x:α} {l:List α} (h:∀ y∈l,key x<=key y):ins key x l=x::l:=by
 cases l with
 | nil=>rfl
 | cons y r=>rw [ins,zy1 (h y (by simp))]
theorem yun {z:α} (u v:List α):z∈mrg key u v↔z∈u\/z∈v:=by
 fun_induction mrg key u v with
 | case1 v=>simp
 | case2 x u=>simp
 | case3 x u y v h ih =>
  have e:z∈x::mrg key u (y::v)↔z=x\/z∈u\/z=y\/z∈v:=by rw [zy13,ih,zy13]
  rw [e,zy13,zy13,or_assoc]
 | case4 x u y v h ih =>
  have e:z∈y::mrg key (x::u) v↔z=y\/(z=x\/z∈u)\/z∈v:=by rw [zy13,ih,zy13]
  rw [e,zy13,zy13,or_left_comm]
theorem xdp (x:α) (u v:List α) (hu:Sd key u) (hv:Sd key v):mrg key (ins key x u) v=ins key x (mrg key u v):=by
 fun_induction mrg key u v with
 | case1 v=>rw [ins,yuo]
 | case2 y u=>rw [zoh]
 | case3 y u z v h ih =>
  by_cases c:key x<=key y
  . rw [ins,zy1 c,mrg,zy1 (by omega),mrg,zy1 h,ins,zy1 c]
  . rw [ins,zy0 c,mrg,zy1 h,ih hu.2 hv,ins,zy0 c]
 | case4 y u z v h ih =>
  by_cases c:key x<=key z
  . have c2:key x<=key y:=by omega
    rw [ins,zy1 c2,mrg,zy1 c,mrg,zy0 h,ins,zy1 c]
  . have hi:=ih hu hv.2
    rw [show ins key x (z::mrg key (y::u) v)=z::ins key x (mrg key (y::u) v) by rw [ins,zy0 c],<- hi];by_cases c2:key x<=key y
    . rw [show ins key x (y::u)=x::y::u by rw [ins,zy1 c2],mrg,zy0 c]
    . rw [show ins key x (y::u)=y::ins key x u by rw [ins,zy0 c2],mrg,zy0 h]
theorem yup (u v:List α) (hu:Sd key u) (hv:Sd key v):Sd key (mrg key u v):=by
 fun_induction mrg key u v with
 | case1 v=>exact hv
 | case2 y u=>exact hu
 | case3 y u z v h ih =>
  refine ⟨fun a ha=>?_,ih hu.2 hv⟩;rcases (yun u (z::v)).1 ha with ha | ha
  . exact hu.1 a ha
  . rcases zy13.1 ha with rfl | ha
    . exact h
    . have:=hv.1 a ha;omega
 | case4 y u z v h ih =>
  refine ⟨fun a ha=>?_,ih hu hv.2⟩;rcases (yun (y::u) v).1 ha with ha | ha
  . rcases zy13.1 ha with rfl | ha
    . omega
    . have:=hu.1 a ha;omega
  . exact hv.1 a ha
theorem zoi (v:List α):∀ (u:List α),mrg key (srt key u) (srt key v)=srt key (u++v)
 | []=>by rw [srt,mrg];rfl
 | x::u=>by rw [srt,xdp x _ _ ztf ztf,zoi v u];rfl
theorem zmi {u2 v2:List α} (u1 v1:List α) (h1:∀ a∈u1,∀ b∈v2,key a<=key b) (h2:∀ b∈v1,∀ a∈u2,key b<key a) :
 mrg key (u1++u2) (v1++v2)=mrg key u1 v1++mrg key u2 v2:=by
 fun_induction mrg key u1 v1 with
 | case1 v =>
  clear h1
  induction v with
  | nil=>rfl
  | cons y v ih =>
   have ih:=ih (fun b hb=>h2 b (by simp [hb]));cases u2 with
   | nil=>simp [mrg]
   | cons a u =>
    have:=h2 y zz5 a zz5;rw [zy57,zy40,mrg,zy0 (by omega)];rw [zy57] at ih;rw [ih];rfl
 | case2 x u =>
  have hh:∀ u:List α,(∀ a∈u,∀ b∈v2,key a<=key b)->mrg key (u++u2) v2=u++mrg key u2 v2:=by
   intro u h
   induction u with
   | nil=>rfl
   | cons x u ih =>
    cases v2 with
    | nil=>rw [zoh,zoh]
    | cons b v =>
     rw [zy40,mrg,zy1 (h x (by simp) b (by simp)),ih (fun a ha=>h a (by simp [ha]))];rfl
  exact hh (x::u) h1
 | case3 x u y v h ih =>
  rw [zy40,zy40,mrg,zy1 h,zy40];rw [<- zy40,ih (fun a ha=>h1 a (by simp [ha])) h2]
 | case4 x u y v h ih =>
  rw [zy40,zy40,mrg,zy0 h,zy40];rw [<- zy40,ih h1 (fun b hb=>h2 b (by simp [hb]))]
theorem yfq {a b:List α} {y:α} (h1:∀ x∈a,key x<=key y) (h2:∀ x∈b,key y<key x):mrg key (a++b) [y]=a++y::b:=by
 have e1:=zmi (key:=key) (u2:=b) (v2:=[]) a [y] zz5 (by simpa using h2);have e2:=zmi (key:=key) (u2:=[]) (v2:=[y]) a [] (by simpa using h1) zz5;rw [zy4,zy57,zoh,mrg] at e2;rw [zy4,zoh,e2] at e1
 simpa using e1
theorem yzk {a b:List α} {y:α} (h1:∀ x∈a,key x<key y) (h2:∀ x∈b,key y<=key x):mrg key [y] (a++b)=a++y::b:=by
 have e1:=zmi (key:=key) (u2:=[y]) (v2:=b) [] a zz5 (by simpa using h1);have e2:=zmi (key:=key) (u2:=[]) (v2:=b) [y] [] (by simpa using h2) zz5;rw [zy57,mrg] at e1;rw [zy4,zy57,zoh,mrg] at e2;rw [e1,e2];rfl
theorem ygz:∀ {a b:List α},Sd key (a++b)↔Sd key a/\Sd key b/\∀ x∈a,∀ y∈b,key x<=key y
 | [],b=>by simp [Sd]
 | s::a,b=>by
  simp only [zy40,Sd,ygz (a:=a) (b:=b),zy20,zy13]
  constructor
  . rintro ⟨h1,h2,h3,h4⟩
    exact ⟨⟨fun y hy=>h1 y (.inl hy),h2⟩,h3,fun x hx y hy=>by rcases hx with rfl | hx;exact h1 y (.inr hy);exact h4 x hx y hy⟩
  . rintro ⟨⟨h1,h2⟩,h3,h4⟩
    exact ⟨fun y hy=>by rcases hy with hy | hy;exact h1 y hy;exact h4 s (.inl rfl) y hy,h2,h3,fun x hx=>h4 x (.inr hx)⟩
theorem zze {l:List α} (h:Sd key l) {i j:Nat} (hj:j<l.length) (hij:i<=j):key (l[i]'zz0)<=key l[j]:=by
 induction l generalizing i j with
 | nil=>simp at hj
 | cons _ r ih =>
  cases j with
  | zero =>
   obtain rfl:i=0:=by omega
   exact zy75 _
  | succ j =>
   cases i with
   | zero=>simpa using h.1 _ (zy51 zz126)
   | succ i=>simpa using ih h.2 zz126 zz0
theorem zkq:∀ {l:List α},Sd key l->srt key l=l
 | [],_=>rfl
 | x::r,h=>by rw [srt,zkq h.2,yuc h.1]
theorem xas (u:List α) (x:α):srt key (u++[x])=mrg key (srt key u) [x]:=by rw [<- zoi];rfl
end
end Srt
namespace Srt
theorem zwe {α:Type} {A B:List α} {x y:α} {i:Nat} (h:i=A.length):(A++x::B).set i y=A++y::B:=by
 subst h
 induction A with
 | nil=>rfl
 | cons a A ih=>simp only [zy40,zy6,zy140,ih]
theorem ybx {α:Type} {t n:Nat} {f:α->List PV} {l l' A B C:List α} {x y:α} {i j:Nat} {r s:List PV} (h:l=A++x::(B++y::C)) (h':l'=A++y::(B++x::C)) (hi:i=A.length) (hj:j=A.length+1+B.length) (hr:f y=r) (hs:f x=s) :
 zai.live (.row t n (((l.map f).set i r).set j s))=zai.live (.row t n (l'.map f)):=by
 subst h h' hr hs;rw [<- zy61,<- zy61,zwe hi,show A++y::(B++y::C)=(A++y::B)++y::C by simp,zwe (by simp;omega)];simp
theorem ygt {α:Type} {t n:Nat} {f:α->List PV} {l l' A B C:List α} {x y:α} {i j:Nat} {r s:List PV} (h:l=A++x::(B++y::C)) (h':l'=A++y::(B++x::C)) (hi:i=A.length) (hj:j=A.length+1+B.length) (hr:f y=r) (hs:f x=s) :
 zai.live (.row t n (((l.map f).set j s).set i r))=zai.live (.row t n (l'.map f)):=by
 rw [List.set_comm _ _ (by omega)];exact ybx h h' hi hj hr hs
theorem zji {α:Type} {f:α->List PV} {l A B:List α} {y:α} {i:Nat} {r:List PV} {z:Int} {K:List PV->Prop} (h:l=A++y::B) (hz:z=A.length) (hi:i≠A.length) (hk:K (f y)):zpn ((l.map f).set i r) z K :=
 ⟨f y,by omega,by rw [hz,zy22,zy91 hi,h];simp,hk⟩
abbrev ck (p:zav):Int:=p.chunk.part
abbrev H1 (l:List zav):List (Nat×zai):=[(1000,.live (.row 162 12 (l.map zav.row)))]
def cmp (a b:zav):Int:=if ck a<ck b then -1 else if ck a>ck b then 1 else 0
def ydk (g:FuncId):Prop:=∀ a b:zav,zan Tryz.prog g [a.hv,b.hv] zad (i64 (cmp a b)) zad
theorem zma {a b:zav}:cmp a b<0↔ck a<ck b:=by unfold cmp;split<;>(try split)<;>omega
theorem yxg {g:FuncId} (P M Q X Y:List zav) (hxy:X.length=Y.length) (hb:(P++X++M++Y++Q).length<2 ^ 40) (a b n:Int) (ha:a=P.length) (hb':b=(P++X++M).length) (hn:n=X.length) :
 zan Tryz.prog 220 [.own 1000,i64 a,i64 b,i64 n,.clo g []] (lk .free (H1 (P++X++M++Y++Q))) (.tup []) (lk .free (H1 (P++Y++M++X++Q))):=by
 refine zap mixed Tryz.func220 zz4 [1000] zbq ?_;(conv=>whnf);refine ⟨{x:(List zav×List zav)×(List zav×List zav) // X=x.1.1++x.1.2/\Y=x.2.1++x.2.2/\x.1.1.length=x.2.1.length},fun | ⟨((X1,X2),(Y1,Y2)),_⟩=>hsP [1000] 38 [(0,.own 1000),(1,i64 a),(2,i64 b),(3,i64 n),(10,i64 X1.length)] (H1 (P++Y1++X2++M++X1++Y2++Q)),fun x=>x.1.1.2.length,⟨(([],X),([],Y)),rfl,rfl,rfl⟩,?_,?_⟩
 . exact (zcb [(1000,some 1000)] zz92)
 rintro ⟨⟨⟨X1,X2⟩,⟨Y1,Y2⟩⟩,hX,hY,h12⟩;dsimp only at hX hY h12;have lX:X.length=X1.length+X2.length:=by rw [hX];simp
 have lY:Y.length=Y1.length+Y2.length:=by rw [hY];simp
 simp only [zy8] at hb hb';(conv=>whnf);cases X2 with
 | nil =>
  have:Y2=[]:=zy14 (by rw [zy12] at lX;omega);subst this;rw [zy12] at lX;rw [zy4] at hX hY;subst hX hY;refine sN ?_;refine zao [(1000,some 1000)] rfl rfl ⟨rfl,trivial⟩ rfl rfl ⟨⟨rfl,.inl ⟨1000,rfl,?_⟩⟩,trivial⟩;exact zar zz5
 | cons x X2 =>
  cases Y2 with
  | nil=>simp at lX lY;omega
  | cons y Y2 =>
   rw [zy6] at lX lY;have e1:P++Y1++x::X2++M++X1++y::Y2++Q=(P++Y1)++x::((X2++M++X1)++y::(Y2++Q)):=by simp
   have e2:P++Y1++x::X2++M++X1++y::Y2++Q=(P++Y1++x::X2++M++X1)++y::(Y2++Q):=by simp
   refine sT ?_;refine sF ?_;refine sF ?_;refine sF ?_;refine sO ?_;refine zaj e2 ?_ ?_
   . simp;omega
   (conv=>whnf);refine sF ?_;refine sO ?_;refine zaj e1 ?_ ?_
   . simp;omega
   (conv=>whnf);refine sO ?_;refine zaj e1 ?_ ?_
   . simp;omega
   (conv=>whnf);refine sO ?_;refine zji e2 ?_ ?_ ?_
   . simp;omega
   . simp;omega
   (conv=>whnf);refine sD ?_;refine sF ?_;refine ⟨⟨((X1++[x],X2),(Y1++[y],Y2)),by rw [hX];simp,by rw [hY];simp,by simp;omega⟩,(zcb [(1000,some 1000)] (by repeat' (first | exact z0 | refine z1 ?_ | refine ⟨?_,?_⟩ | ((refine ybx e1 (by simp) ?_ ?_ rfl rfl<;>(simp;try omega))) | exact z2))),by simp⟩
theorem zmq {g:FuncId} {L L':List zav} (P M Q X Y:List zav) (h1:L=P++X++M++Y++Q) (h2:L'=P++Y++M++X++Q) (hxy:X.length=Y.length) (hb:L.length<2 ^ 40) (a b n:Int) (ha:a=P.length) (hb':b=(P++X++M).length) (hn:n=X.length) :
 zan Tryz.prog 220 [.own 1000,i64 a,i64 b,i64 n,.clo g []] (lk .free (H1 L)) (.tup []) (lk .free (H1 L')):=by
 subst h1 h2;exact yxg P M Q X Y hxy hb a b n ha hb' hn
theorem ykz {g:FuncId} (P Q U V:List zav) (hU:U≠[]) (hV:V≠[]) (hb:(P++U++V++Q).length<2 ^ 40) (a m b:Int) (ha:a=P.length) (hm:m=(P++U).length) (hb':b=(P++U++V).length) :
 zan Tryz.prog 219 [.own 1000,i64 a,i64 m,i64 b,.clo g []] (lk .free (H1 (P++U++V++Q))) (.tup []) (lk .free (H1 (P++V++U++Q))):=by
 refine zap mixed Tryz.func219 zz4 [1000] zbq ?_;simp only [zy8] at hb hm hb';have hU0:=zy34.2 hU;have hV0:=zy34.2 hV;generalize hT:P++V++U++Q=T;(conv=>whnf);refine sF ?_;refine sF ?_;refine ⟨{x:(List zav×List zav)×(List zav×List zav) // x.1.1++x.2.1++x.1.2++x.2.2=T/\x.1.1.length+x.1.2.length=P.length+U.length/\0<x.1.2.length/\0<x.2.1.length/\x.1.1.length+x.1.2.length+x.2.1.length+x.2.2.length=P.length+U.length+V.length+Q.length},
  fun | ⟨((P',U'),(V',Q')),_⟩=>hsP [1000] 58 [(0,.own 1000),(2,i64 m),(4,.clo g []),(10,i64 U'.length),(11,i64 V'.length)] (H1 (P'++U'++V'++Q')),fun x=>x.1.1.2.length+x.1.2.1.length,⟨((P,U),(V,Q)),by simpa using hT,rfl,hU0,hV0,rfl⟩,?_,?_⟩
 . exact (zcb [(1000,some 1000)] (by repeat' (first | exact z0 | refine z1 ?_ | refine ⟨?_,?_⟩ | ((exact zbk (by omega))) | exact z2)))
 clear hT hU hV;rintro ⟨⟨⟨P',U'⟩,⟨V',Q'⟩⟩,h1,h2,h3,h4,h5⟩;dsimp only at h1 h2 h3 h4 h5;subst hm;(conv=>whnf);by_cases c:U'.length=V'.length
 . refine sN ?_
   refine sF ?_
   (refine zae [] [(1000,1000)] [] ?_;(conv=>whnf);refine dG (zmq (L:=P'++U'++V'++Q') (L':=T) P' [] Q' U' V' zz5 (by rw [<- h1];simp) c zz3 _ _ _ zz3 zz3 rfl) ?_ ⟨rfl,rfl,rfl,⟨zz1,trivial⟩,trivial,rfl,rfl,rfl⟩)
   exact yy51
 . refine sT ?_
   by_cases c2:U'.length>V'.length
   . obtain ⟨A,B,rfl,hA⟩:∃ A B,U'=A++B/\A.length=V'.length:=⟨U'.take V'.length,U'.drop V'.length,by simp,by simp;omega⟩
     simp only [zy8] at h2 h3 h5 c c2;refine zac zz3 (zw ?_)
     try refine sG ?_
     refine sF ?_
     (refine zae [] [(1000,1000)] [] ?_;(conv=>whnf);refine dG (zmq (L:=P'++(A++B)++V'++Q') (L':=P'++V'++B++A++Q') P' B Q' A V' zz5 rfl hA om _ _ _ om om om) ?_ ⟨rfl,rfl,rfl,⟨zz1,trivial⟩,trivial,rfl,rfl,rfl⟩)
     refine sF ?_;refine ⟨⟨((P'++V',B),(A,Q')),by rw [<- h1];simp,by simp;omega,by dsimp only;omega,by dsimp only;omega,by simp;omega⟩,(zcb [(1000,some 1000)] zz2),by simp;omega⟩
   . obtain ⟨A,B,rfl,hB⟩:∃ A B,V'=A++B/\B.length=U'.length:=⟨V'.take (V'.length-U'.length),V'.drop (V'.length-U'.length),by simp,by simp;omega⟩
     simp only [zy8] at h2 h4 h5 c c2;refine zab zz3 (zw ?_)
     try refine sG ?_
     refine sF ?_;refine sF ?_;refine sF ?_
     (refine zae [] [(1000,1000)] [] ?_;(conv=>whnf);refine dG (zmq (L:=P'++U'++(A++B)++Q') (L':=P'++B++A++U'++Q') P' A Q' U' B zz5 rfl hB.symm om _ _ _ om om om) ?_ ⟨rfl,rfl,rfl,⟨zz1,trivial⟩,trivial,rfl,rfl,rfl⟩)
     refine sF ?_;refine ⟨⟨((P',B),(A,U'++Q')),by rw [<- h1];simp,by simp;omega,by dsimp only;omega,by dsimp only;omega,by simp;omega⟩,(zcb [(1000,some 1000)] zz23),by simp;omega⟩
theorem zgd {α:Type} (l:List α):l=[]\/∃ a x,l=a++[x]:=by
 rcases zy111 l with h | ⟨a,x,h⟩
 . exact .inl h
 . exact .inr ⟨a,x,by rw [h,zy99]⟩
theorem yqp {g:FuncId} (hg:ydk g) (P X Q:List zav) (hb:(P++X++Q).length<2 ^ 40) (a b:Int) (ha:a=P.length) (hb':b=(P++X).length) :
 zan Tryz.prog 217 [.own 1000,i64 a,i64 b,.clo g []] (lk .free (H1 (P++X++Q))) (.tup []) (lk .free (H1 (P++srt ck X++Q))):=by
 refine zap mixed Tryz.func217 zz4 [1000] zbq ?_;simp only [zy8] at hb hb';(conv=>whnf);refine sF ?_;cases X with
 | nil =>
  refine ⟨Unit,fun _=>hsP [1000] 53 [(0,.own 1000),(1,i64 a),(2,i64 b),(3,.clo g []),(8,i64 (a+1))] (H1 (P++[]++Q)),fun _=>0,(),?_,fun _=>?_⟩
  . exact (zdj [(1000,some 1000)])
  (conv=>whnf);refine zab (by simp at hb' ⊢;omega) (zw ?_)
  try refine sG ?_
  exact yy51
 | cons x0 X =>
  refine ⟨{x:List zav×List zav // x0::X=x.1++x.2/\0<x.1.length},fun | ⟨(A,B),_⟩=>hsP [1000] 53 [(0,.own 1000),(1,i64 a),(2,i64 b),(3,.clo g []),(8,i64 (P.length+A.length:Nat))] (H1 (P++srt ck A++B++Q)),fun x=>x.1.2.length,⟨([x0],X),rfl,by simp⟩,?_,?_⟩
  . exact (zcb [(1000,some 1000)] (by repeat' (first | exact z0 | refine z1 ?_ | refine ⟨?_,?_⟩ | ((exact zbk om)) | ((exact zar (by simp [srt,ins]))) | exact z2)))
  rintro ⟨⟨A,B⟩,h,hA⟩;dsimp only at h hA;have hl:(x0::X).length=A.length+B.length:=by rw [h];simp
  rw [hl] at hb hb';have hS:=zkp (key:=ck) A;(conv=>whnf);cases B with
  | nil =>
   rw [zy12] at hb hb';rw [zy4] at h;refine sN ?_;refine zao [(1000,some 1000)] rfl rfl ⟨rfl,trivial⟩ rfl rfl ⟨⟨rfl,.inl ⟨1000,rfl,?_⟩⟩,trivial⟩;exact zar zz104
  | cons x B =>
   rw [zy6] at hb hb';refine zac zz3 (zw ?_)
   try refine sG ?_
   have hsd:=ztf (key:=ck) (l:=A);have hsn:=xas (key:=ck) A x;obtain ⟨S,hSe⟩:∃ S,S=srt ck A:=⟨_,rfl⟩
   rw [<- hSe] at hS hsd hsn;refine ⟨{y:List zav×List zav // S=y.1++y.2/\∀ z∈y.2,ck x<ck z},fun | ⟨(S1,S2),_⟩=>hsP [1000] 53 [(0,.own 1000),(1,i64 a),(2,i64 b),(3,.clo g []),(8,i64 (P.length+A.length:Nat)),(9,i64 (P.length+S1.length:Nat))] (H1 (P++S1++x::(S2++B++Q))),fun y=>y.1.1.length,⟨(S,[]),by simp,by simp⟩,?_,?_⟩
   . exact (zcb [(1000,some 1000)] (by repeat' (first | exact z0 | refine z1 ?_ | refine ⟨?_,?_⟩ | ((exact zbk om)) | ((exact zar (by simp [hSe]))) | exact z2)))
   rintro ⟨⟨S1,S2⟩,g1,g2⟩;dsimp only at g1 g2;have hSl:S.length=S1.length+S2.length:=by rw [g1];simp
   have fin:∀ (hle:∀ z∈S1,ck z<=ck x),srt ck (A++[x])=S1++x::S2:=fun hle=>by rw [hsn,g1];exact yfq hle g2
   (conv=>whnf);rcases zgd S1 with rfl | ⟨S1,y,rfl⟩
   . refine zab zz3 (zw ?_)
     refine sD ?_;refine sF ?_;exact ⟨⟨(A++[x],B),by rw [h];simp,by simp⟩,(zcb [(1000,some 1000)] (by repeat' (first | exact z0 | refine z1 ?_ | refine ⟨?_,?_⟩ | ((exact zbk om)) | ((exact zar (by rw [fin (by simp)];simp))) | exact z2))),by simp⟩
   . have e1:P++(S1++[y])++x::(S2++B++Q)=(P++S1)++y::([]++x::(S2++B++Q)):=by simp
     have e2:P++(S1++[y])++x::(S2++B++Q)=(P++S1++[y])++x::(S2++B++Q):=by simp
     simp only [zy8,zy6,zy12] at hSl;refine zac zz3 (zw ?_);refine sO ?_;refine zaj e2 zz3 (zw ?_);refine sF ?_;refine sO ?_;refine zaj e1 zz3 (zw ?_)
     (refine cZ ?_;refine dL (hg x y) ?_)
     refine sD ?_;by_cases c:cmp x y<0
     . refine sT ?_
       refine sF ?_;refine sF ?_;refine sO ?_;refine zaj e1 zz3 (zw ?_);refine sO ?_;refine zaj e2 zz3 (zw ?_);refine sO ?_;refine zaj e2 zz3 (zw ?_);refine sO ?_;refine zji e1 zz3 zz3 (zw ?_);refine sD ?_;refine sF ?_;refine ⟨⟨(S1,y::S2),by rw [g1];simp,fun z hz=>?_⟩,(zcb [(1000,some 1000)] zz54),by simp⟩;rcases zy13.1 hz with rfl | hz
       . exact zma.1 c
       . exact g2 z hz
     . have hle:∀ z∈S1++[y],ck z<=ck x:=fun z hz=>by
        have h1:¬ ck x<ck y:=fun h=>c (zma.2 h)
        rw [g1] at hsd;have h2:=(ygz.1 (ygz.1 hsd).1).2.2;rcases zy20.1 hz with hz | hz
        . have:=h2 z hz y zz5;omega
        . rw [zy25.1 hz];omega
       refine sN ?_;refine sF ?_;exact ⟨⟨(A++[x],B),by rw [h];simp,by simp⟩,(zcb [(1000,some 1000)] (by repeat' (first | exact z0 | refine z1 ?_ | refine ⟨?_,?_⟩ | ((exact zbk om)) | ((exact zar (by rw [fin hle];simp))) | exact z2))),by simp⟩
theorem ybd {α:Type} {f:α->List PV} {l A V B:List α} {z:Int} {K:List PV->Prop} (k:Nat) (h:l=A++V++B) (hk:k<V.length) (hz:z=A.length+k) (hK:K (f V[k])):zpn (l.map f) z K:=by
 subst h;refine ⟨_,by omega,?_,hK⟩;have:z.toNat=A.length+k:=by omega
 rw [this,zy17,zy27,zy45 (by omega),zy46 (by omega)];simp [hk]
theorem yvm (p:zav->Prop) [DecidablePred p]:∀ {V:List zav},(∀ i j (hj:j<V.length) (hij:i<=j),p V[j]->p (V[i]'zz0))->∃ V1 V2,V=V1++V2/\(∀ z∈V1,p z)/\∀ z∈V2,¬ p z
 | [],_=>⟨[],[],rfl,by simp,by simp⟩
 | y::V,h=>by
  by_cases c:p y
  . obtain ⟨V1,V2,e,h1,h2⟩:=yvm p (V:=V) fun i j hj hij hp=>by
     have:=h (i+1) (j+1) zz126 zz0 (by simpa using hp)
     simpa using this
    exact ⟨y::V1,V2,by rw [e];rfl,fun z hz=>by rcases zy13.1 hz with rfl | hz;exact c;exact h1 z hz,h2⟩
  . refine ⟨[],y::V,rfl,by simp,fun z hz hp=>?_⟩
    obtain ⟨j,hj,rfl⟩:=List.getElem_of_mem hz;exact c (h 0 j hj (zy107 _) hp)
theorem mem_left {V V1 V2:List zav} (h:V=V1++V2) {k:Nat} (hk:k<V.length) (h1:k<V1.length):V[k]∈V1:=by
 subst h;rw [List.getElem_append_left h1];exact zy51 h1
theorem yfo {V V1 V2:List zav} (h:V=V1++V2) {k:Nat} (hk:k<V.length) (h1:¬ k<V1.length):V[k]∈V2:=by
 subst h;rw [List.getElem_append_right (by omega)];exact zy51 _
end Srt
namespace Srt
theorem yrk {g:FuncId} (hg:ydk g) (P U V Q L L':List zav) (hL:L=P++U++V++Q) (hL':L'=P++mrg ck U V++Q) (hU:U≠[]) (hV:V≠[]) (sU:Sd ck U) (sV:Sd ck V) (hb:L.length<2 ^ 40) (a m b:Int) (ha:a=P.length) (hm:m=(P++U).length) (hb':b=(P++U++V).length) (c1:U.length=1) :
 zan Tryz.prog 218 [.own 1000,i64 a,i64 m,i64 b,.clo g []] (lk .free (H1 L)) (.tup []) (lk .free (H1 L')):=by
 have hU0:=zy34.2 hU;have hV0:=zy34.2 hV;rw [hL] at hb;simp only [zy8] at hb hm hb';refine zap mixed Tryz.func218 zz4 [1000] zbq ?_;(conv=>whnf);refine sF ?_;refine sT ?_;obtain ⟨x,rfl⟩:∃ x,U=[x]:=List.length_eq_one_iff.1 c1;obtain ⟨V1,V2,hVV,h1,h2⟩:=yvm (fun z=>ck z<ck x) (V:=V) fun i j hj hij hp=>by
  have:=zze sV hj hij;omega
 have hmrg:mrg ck [x] V=V1++x::V2:=by rw [hVV];exact yzk h1 fun z hz=>by have:=h2 z hz;omega
 have hVl:V.length=V1.length+V2.length:=by rw [hVV];simp
 rw [zy62] at hb hm hb';refine ⟨{x:Nat×Nat // x.1<=V1.length/\V1.length<=x.2/\x.2<=V.length},fun | ⟨(i,j),_⟩=>hsP [1000] 220 [(0,.own 1000),(1,i64 a),(2,i64 m),(3,i64 b),(4,.clo g []),(10,i64 (P.length+1+i:Nat)),(11,i64 (P.length+1+j:Nat))] (H1 L),fun x=>x.1.2-x.1.1,⟨(0,V.length),by omega,by omega,zy23 _⟩,?_,?_⟩
 . exact (zcb [(1000,some 1000)] zz2)
 rintro ⟨⟨i,j⟩,g1,g2,g3⟩;dsimp only at g1 g2 g3;(conv=>whnf);by_cases c:i<j
 . have hlt:(i+j) / 2<V.length:=by omega
   refine sT ?_;refine sF ?_;refine zbv (zui zz0 zz0) (zw ?_);refine zaa zz4 (zw ?_);refine zbv (z':=((P.length+1+(i+j) / 2:Nat):Int)) ?_ ?_
   . show W ((((P.length+1+i:Nat):Int)+((P.length+1+j:Nat):Int)) / 2)=_
     rw [zbu (by omega) (by omega)];omega
   (conv=>whnf);refine zaa zz114 (zw ?_);refine ybd ((i+j) / 2) (show L=(P++[x])++V++Q from hL) hlt om (zw ?_);refine zaa zz114 (zw ?_);refine zaj (show L=P++x::(V++Q) by rw [hL];simp) zz3 (zw ?_)
   (refine cZ ?_;refine dL (hg _ x) ?_)
   refine sD ?_;by_cases c2:(i+j) / 2<V1.length
   . have hk:=h1 _ (mem_left hVV hlt c2)
     refine zac (zy10 (zma.2 hk)) (zw ?_);exact yy138
   . have hk:=h2 _ (yfo hVV hlt c2)
     refine zab (zy11 fun h=>hk (zma.1 h)) (zw ?_);exact yy128
 . obtain rfl:i=V1.length:=by omega
   refine sN ?_;refine ⟨{y:List zav×List zav // V1=y.1++y.2},fun | ⟨(W1,W2),_⟩=>hsP [1000] 220 [(0,.own 1000),(10,i64 (P.length+1+V1.length:Nat)),(13,i64 (P.length+W1.length:Nat))] (H1 (P++W1++x::(W2++V2++Q))),fun y=>y.1.2.length,⟨([],V1),rfl⟩,?_,?_⟩
   . exact (zcb [(1000,some 1000)] (by repeat' (first | exact z0 | refine z1 ?_ | refine ⟨?_,?_⟩ | ((exact zbk om)) | ((exact zar (by rw [hL,hVV];simp))) | exact z2)))
   rintro ⟨⟨W1,W2⟩,gw⟩;dsimp only at gw;have hW:V1.length=W1.length+W2.length:=by rw [gw];simp
   (conv=>whnf);refine sF ?_;cases W2 with
   | nil =>
    rw [zy12] at hW;exact yy113
   | cons y W2 =>
    rw [zy6] at hW;have e1:P++W1++x::(y::W2++V2++Q)=(P++W1)++x::([]++y::(W2++V2++Q)):=by simp
    have e2:P++W1++x::(y::W2++V2++Q)=(P++W1++[x])++y::(W2++V2++Q):=by simp
    refine sT ?_;refine sF ?_;refine sF ?_;refine sO ?_;refine zaj e2 om (zw ?_);refine sO ?_;refine zaj e1 om (zw ?_);refine sO ?_;refine zaj e1 om (zw ?_);refine sO ?_;refine zji e2 om om (zw ?_);refine sD ?_;refine sF ?_;exact ⟨⟨(W1++[y],W2),by rw [gw];simp⟩,(zcb [(1000,some 1000)] (by repeat' (first | exact z0 | refine z1 ?_ | refine ⟨?_,?_⟩ | ((exact zbk om)) | ((refine ybx e1 (by simp) ?_ ?_ rfl rfl<;>(simp;try omega))) | exact z2))),by simp⟩
end Srt
namespace Srt
theorem yrl {g:FuncId} (hg:ydk g) (P U V Q L L':List zav) (hL:L=P++U++V++Q) (hL':L'=P++mrg ck U V++Q) (hU:U≠[]) (hV:V≠[]) (sU:Sd ck U) (sV:Sd ck V) (hb:L.length<2 ^ 40) (a m b:Int) (ha:a=P.length) (hm:m=(P++U).length) (hb':b=(P++U++V).length) (c1:¬ U.length=1) (c2:V.length=1) :
 zan Tryz.prog 218 [.own 1000,i64 a,i64 m,i64 b,.clo g []] (lk .free (H1 L)) (.tup []) (lk .free (H1 L')):=by
 have hU0:=zy34.2 hU;have hV0:=zy34.2 hV;rw [hL] at hb;simp only [zy8] at hb hm hb';refine zap mixed Tryz.func218 zz4 [1000] zbq ?_;(conv=>whnf);refine sF ?_;refine sN ?_;refine sF ?_;refine sT ?_;obtain ⟨y,rfl⟩:∃ y,V=[y]:=List.length_eq_one_iff.1 c2;obtain ⟨U1,U2,hUU,h1,h2⟩:=yvm (fun z=>ck z<=ck y) (V:=U) fun i j hj hij hp=>by
  have:=zze sU hj hij;omega
 have hmrg:mrg ck U [y]=U1++y::U2:=by rw [hUU];exact yfq h1 fun z hz=>by have:=h2 z hz;omega
 have hUl:U.length=U1.length+U2.length:=by rw [hUU];simp
 rw [zy62] at hb hb';refine ⟨{x:Nat×Nat // x.1<=U1.length/\U1.length<=x.2/\x.2<=U.length},fun | ⟨(i,j),_⟩=>hsP [1000] 220 [(0,.own 1000),(1,i64 a),(2,i64 m),(3,i64 b),(4,.clo g []),(14,i64 (P.length+i:Nat)),(15,i64 (P.length+j:Nat))] (H1 L),fun x=>x.1.2-x.1.1,⟨(0,U.length),by omega,by omega,zy23 _⟩,?_,?_⟩
 . exact (zcb [(1000,some 1000)] zz2)
 rintro ⟨⟨i,j⟩,g1,g2,g3⟩;dsimp only at g1 g2 g3;(conv=>whnf);by_cases c:i<j
 . have hlt:(i+j) / 2<U.length:=by omega
   refine sT ?_;refine sF ?_;refine zbv (zui zz0 zz0) (zw ?_);refine zaa zz4 (zw ?_);refine zbv (z':=((P.length+(i+j) / 2:Nat):Int)) ?_ ?_
   . show W ((((P.length+i:Nat):Int)+((P.length+j:Nat):Int)) / 2)=_
     rw [zbu (by omega) (by omega)];omega
   (conv=>whnf);refine zaa zz114 (zw ?_);refine zaj (show L=(P++U)++y::Q by rw [hL];simp) om (zw ?_);refine zaa zz114 (zw ?_);refine ybd ((i+j) / 2) (show L=P++U++([y]++Q) by rw [hL];simp) hlt om (zw ?_)
   (refine cZ ?_;refine dL (hg y _) ?_)
   refine sD ?_;by_cases c2:(i+j) / 2<U1.length
   . have hk:=h1 _ (mem_left hUU hlt c2)
     have hc:decide (cmp y U[(i+j) / 2]<0)=false:=zy11 fun h=>by have:=zma.1 h;omega
     refine zac (by rw [hc];rfl) (zw ?_);exact yy138
   . have hk:=h2 _ (yfo hUU hlt c2)
     have hc:decide (cmp y U[(i+j) / 2]<0)=true:=zy10 (zma.2 zz0);refine zab (by rw [hc];rfl) (zw ?_);exact yy128
 . obtain rfl:i=U1.length:=by omega
   refine sN ?_;refine ⟨{z:List zav×List zav // U2=z.1++z.2},fun | ⟨(W1,W2),_⟩=>hsP [1000] 220 [(0,.own 1000),(14,i64 (P.length+U1.length:Nat)),(17,i64 (P.length+U1.length+W1.length:Nat))] (H1 (P++U1++W1++y::(W2++Q))),fun z=>z.1.1.length,⟨(U2,[]),by simp⟩,?_,?_⟩
   . exact (zcb [(1000,some 1000)] (by repeat' (first | exact z0 | refine z1 ?_ | refine ⟨?_,?_⟩ | ((exact zbk om)) | ((exact zar (by rw [hL,hUU];simp))) | exact z2)))
   rintro ⟨⟨W1,W2⟩,gw⟩;dsimp only at gw;have hW:U2.length=W1.length+W2.length:=by rw [gw];simp
   (conv=>whnf);rcases zgd W1 with rfl | ⟨W1,z,rfl⟩
   . rw [zy12] at hW
     exact yy113
   . simp only [zy8,zy6,zy12] at hW
     have e1:P++U1++(W1++[z])++y::(W2++Q)=(P++U1++W1)++z::([]++y::(W2++Q)):=by simp
     have e2:P++U1++(W1++[z])++y::(W2++Q)=(P++U1++W1++[z])++y::(W2++Q):=by simp
     refine zac zz3 (zw ?_)
     try refine sG ?_
     refine sF ?_;refine sF ?_;refine sO ?_;refine zaj e1 zz3 (zw ?_);refine sO ?_;refine zaj e2 zz3 (zw ?_);refine sO ?_;refine zaj e2 zz3 (zw ?_);refine sO ?_;refine zji e1 zz3 zz3 (zw ?_);refine sD ?_;refine sF ?_;exact ⟨⟨(W1,z::W2),by rw [gw];simp⟩,(zcb [(1000,some 1000)] zz54),by simp⟩
end Srt
namespace Srt
structure Part (U V:List zav) (h s:Nat):Prop where
 hs:s<=h
 hv:h-s<=V.length
 hu:s<=U.length
 lo:∀ x∈U.take s,∀ z∈V.drop (h-s),ck x<=ck z
 hi:∀ z∈V.take (h-s),∀ x∈U.drop s,ck z<ck x
theorem zsu {α:Type} {l:List α} {n:Nat} {x:α} (h:x∈l.take n):∃ i,∃ hi:i<l.length,i<n/\x=l[i]:=by
 obtain ⟨i,hi,rfl⟩:=List.getElem_of_mem h;rw [zy67] at hi;exact ⟨i,by omega,by omega,by simp⟩
theorem zst {α:Type} {l:List α} {n:Nat} {x:α} (h:x∈l.drop n):∃ i,∃ hi:i<l.length,n<=i/\x=l[i]:=by
 obtain ⟨i,hi,rfl⟩:=List.getElem_of_mem h;rw [zy38] at hi;exact ⟨n+i,by omega,by omega,by simp⟩
def LoB (U V:List zav) (h s:Nat):Prop:=∃ i j,∃ (h1:i<U.length) (h2:j<V.length),i+1=s/\j+s=h/\ck U[i]<=ck V[j]
def HiB (U V:List zav) (h s:Nat):Prop:=∃ i j,∃ (h1:i<U.length) (h2:j<V.length),i=s/\j+1+s=h/\ck V[j]<ck U[i]
theorem xec {U V:List zav} {h s s0 r0:Nat} (sU:Sd ck U) (sV:Sd ck V) (h0:s0<=s) (h1:s<=r0) (hr:r0<=h) (hru:r0<=U.length) (hv:h-s0<=V.length)
 (e0:s0=0\/h-s0=V.length) (e1:r0=h\/r0=U.length) (p0:s=s0\/LoB U V h s)
 (p1:s=r0\/HiB U V h s):Part U V h s:=by
 refine ⟨by omega,by omega,by omega,fun x hx z hz=>?_,fun z hz x hx=>?_⟩
 . obtain ⟨i,hi,hi2,rfl⟩:=zsu hx
   obtain ⟨j,hj,hj2,rfl⟩:=zst hz;rcases p0 with p0 | ⟨i',j',k1,k2,k3,k4,k5⟩
   . rcases e0 with e0 | e0<;>omega
   . have a1:=zze sU (i:=i) k1 zz0
     have a2:=zze sV (i:=j') hj zz0;omega
 . obtain ⟨j,hj,hj2,rfl⟩:=zsu hz
   obtain ⟨i,hi,hi2,rfl⟩:=zst hx;rcases p1 with p1 | ⟨i',j',k1,k2,k3,k4,k5⟩
   . rcases e1 with e1 | e1<;>omega
   . have a1:=zze sU (i:=i') hi zz0
     have a2:=zze sV (i:=j) k2 zz0;omega
theorem Part.merge {U V:List zav} {h s:Nat} (p:Part U V h s):mrg ck U V=mrg ck (U.take s) (V.take (h-s))++mrg ck (U.drop s) (V.drop (h-s)):=by
 have:=zmi (key:=ck) (u2:=U.drop s) (v2:=V.drop (h-s)) (U.take s) (V.take (h-s)) p.lo p.hi
 rwa [zy31,zy31] at this
theorem ywe {l:List zav} (h:Sd ck l) (n:Nat):Sd ck (l.take n):=by
 rw [<- zy31 n l] at h;exact (ygz.1 h).1
theorem ywd {l:List zav} (h:Sd ck l) (n:Nat):Sd ck (l.drop n):=by
 rw [<- zy31 n l] at h;exact (ygz.1 h).2.1
theorem zxn {g:FuncId} {L L':List zav} (P Q U V:List zav) (h1:L=P++U++V++Q) (h2:L'=P++V++U++Q) (hU:U≠[]) (hV:V≠[]) (hb:L.length<2 ^ 40) (a m b:Int) (ha:a=P.length) (hm:m=(P++U).length) (hb':b=(P++U++V).length) :
 zan Tryz.prog 219 [.own 1000,i64 a,i64 m,i64 b,.clo g []] (lk .free (H1 L)) (.tup []) (lk .free (H1 L')):=by
 subst h1 h2;exact ykz P Q U V hU hV hb a m b ha hm hb'
theorem ynk {U V:List zav} (h:U=[]\/V=[]):mrg ck U V=U++V:=by
 rcases h with rfl | rfl
 . rw [mrg];rfl
 . rw [zoh];simp
theorem ykb (U V:List zav):(mrg ck U V).length=U.length+V.length:=by
 fun_induction mrg ck U V<;>simp_all<;>omega
theorem yct {g:FuncId} (hg:ydk g):∀ (n:Nat) (P U V Q L L':List zav) (_:L=P++U++V++Q) (_:L'=P++mrg ck U V++Q) (_:U.length+V.length<=n) (_:U≠[]) (_:V≠[]) (_:Sd ck U) (_:Sd ck V) (_:L.length<2 ^ 40) (a m b:Int) (_:a=P.length) (_:m=(P++U).length) (_:b=(P++U++V).length),
 zan Tryz.prog 218 [.own 1000,i64 a,i64 m,i64 b,.clo g []] (lk .free (H1 L)) (.tup []) (lk .free (H1 L'))
 | 0,P,U,V,Q,L,L',hL,hL',hn,hU,hV,sU,sV,hb,a,m,b,ha,hm,hb'=>by
  have:=zy34.2 hU;omega
 | n+1,P,U,V,Q,L,L',hL,hL',hn,hU,hV,sU,sV,hb,a,m,b,ha,hm,hb'=>by
  by_cases c1:U.length=1
  . exact yrk hg P U V Q L L' hL hL' hU hV sU sV hb a m b ha hm hb' c1
  by_cases c2:V.length=1
  . exact yrl hg P U V Q L L' hL hL' hU hV sU sV hb a m b ha hm hb' c1 c2
  have ih:=yct hg n;have hU0:=zy34.2 hU;have hV0:=zy34.2 hV;have hLl:L.length=P.length+U.length+V.length+Q.length:=by rw [hL];simp;omega
  rw [hLl] at hb;simp only [zy8] at hm hb';obtain ⟨h,hh⟩:∃ h,h=(U.length+V.length) / 2:=⟨_,rfl⟩
  refine zap mixed Tryz.func218 zz4 [1000] zbq ?_;(conv=>whnf);refine sF ?_;refine sN ?_;refine sF ?_;refine sN ?_;refine sF ?_;refine zbv (zui zz0 zz0) (zw ?_);refine zaa zz4 (zw ?_);refine zbv (z':=((P.length+h:Nat):Int)) ?_ ?_
  . show W ((a+b) / 2)=_
    rw [zbu (by omega) (by omega)];omega
  (conv=>whnf);refine sFm ?_;refine zhs.meet {x:Nat×Nat // x.1<=x.2/\x.2<=h/\x.2<=U.length/\h-x.1<=V.length/\(x.1=0\/h-x.1=V.length)/\(x.2=h\/x.2=U.length)} (fun | ⟨(s,r),_⟩=>hsP [1000] 220 [(0,.own 1000),(1,i64 a),(2,i64 m),(3,i64 b),(4,.clo g []),(18,i64 (P.length+h:Nat)),(19,i64 (2*P.length+h+U.length:Nat)),(20,i64 (P.length+s:Nat)),(21,i64 (P.length+r:Nat))] (H1 L)) ?_ ?_
  . by_cases c3:U.length>h
    . refine zac zz3 (zw ?_)
      refine sFm ?_;exact ⟨⟨(h-V.length,h),by dsimp only;omega⟩,(zcb [(1000,some 1000)] zz2)⟩
    . refine zab zz3 (zw ?_)
      exact ⟨⟨(0,U.length),by dsimp only;omega⟩,(zcb [(1000,some 1000)] zz2)⟩
  rintro ⟨⟨s0,r0⟩,k1,k2,k3,k4,k5,k6⟩;dsimp only at k1 k2 k3 k4 k5 k6;(conv=>whnf);refine sF ?_;refine ⟨{x:Nat×Nat // s0<=x.1/\x.1<=x.2/\x.2<=r0/\(x.1=s0\/LoB U V h x.1)/\(x.2=r0\/HiB U V h x.2)},
   fun | ⟨(s,r),_⟩=>hsP [1000] 220 [(0,.own 1000),(1,i64 a),(2,i64 m),(3,i64 b),(4,.clo g []),(18,i64 (P.length+h:Nat)),(19,i64 (2*P.length+h+U.length:Nat)),(20,i64 (P.length+s:Nat)),(21,i64 (P.length+r:Nat)),(22,i64 ((2*P.length+h+U.length:Nat)-1))] (H1 L),fun x=>x.1.2-x.1.1,⟨(s0,r0),zy23 _,k1,zy23 _,.inl rfl,.inl rfl⟩,?_,?_⟩
  . exact (zdj [(1000,some 1000)])
  rintro ⟨⟨s,r⟩,g1,g2,g3,g4,g5⟩;dsimp only at g1 g2 g3 g4 g5;(conv=>whnf);by_cases c:s<r
  . obtain ⟨k,hk⟩:∃ k,k=(s+r) / 2:=⟨_,rfl⟩
    obtain ⟨j,hj⟩:∃ j,j+1+k=h:=⟨h-1-k,by omega⟩
    have hkU:k<U.length:=by omega
    have hjV:j<V.length:=by omega
    refine sT ?_;refine sF ?_;refine zbv (zui zz0 zz0) (zw ?_);refine zaa zz4 (zw ?_);refine zbv (z':=((P.length+k:Nat):Int)) ?_ ?_
    . show W ((((P.length+s:Nat):Int)+((P.length+r:Nat):Int)) / 2)=_
      rw [zbu (by omega) (by omega)];omega
    (conv=>whnf);refine sF ?_;refine zaa zz114 (zw ?_);refine ybd j (show L=(P++U)++V++Q from hL) hjV zz3 (zw ?_);refine zaa zz114 (zw ?_);refine ybd k (show L=P++U++(V++Q) by rw [hL];simp) hkU zz0 (zw ?_)
    (refine cZ ?_;refine dL (hg V[j] U[k]) ?_)
    refine sD ?_;by_cases c3:ck V[j]<ck U[k]
    . have hc:decide (cmp V[j] U[k]<0)=true:=zy10 (zma.2 c3)
      refine zab (by rw [hc];rfl) (zw ?_)
      try refine sG ?_
      exact ⟨⟨(s,k),g1,by dsimp only;omega,by dsimp only;omega,g4,.inr ⟨k,j,hkU,hjV,rfl,hj,c3⟩⟩,(zdj [(1000,some 1000)]),by dsimp only;omega⟩
    . have hc:decide (cmp V[j] U[k]<0)=false:=zy11 fun h=>c3 (zma.1 h)
      refine zac (by rw [hc];rfl) (zw ?_)
      try refine sG ?_
      refine sF ?_;exact ⟨⟨(k+1,r),by dsimp only;omega,by dsimp only;omega,g3,.inr ⟨k,j,hkU,hjV,rfl,by dsimp only;omega,by omega⟩,g5⟩,(zcb [(1000,some 1000)] zz2),by dsimp only;omega⟩
  . obtain rfl:s=r:=by omega
    have hp:=xec sU sV g1 g3 k2 k3 k4 k5 k6 g4 g5;have hmg:=hp.merge;obtain ⟨q1,q2,q3,-,-⟩:=hp;have sU1:=ywe sU s;have sU2:=ywd sU s;have sV1:=ywe sV (h-s);have sV2:=ywd sV (h-s);have lU1:(U.take s).length=s:=by simp;omega
    have lU2:(U.drop s).length=U.length-s:=by simp
    have lV1:(V.take (h-s)).length=h-s:=by simp;omega
    have lV2:(V.drop (h-s)).length=V.length-(h-s):=by simp
    have eU:U=U.take s++U.drop s:=by simp
    have eV:V=V.take (h-s)++V.drop (h-s):=by simp
    generalize U.take s=U1 at *
    generalize U.drop s=U2 at *
    generalize V.take (h-s)=V1 at *
    generalize V.drop (h-s)=V2 at *
    refine sN ?_;refine sFm ?_;have hlL:∀ A:List zav,A.length=U.length+V.length->(P++A++Q).length<2 ^ 40:=fun A hA=>by simp;omega
    refine zhs.meet Unit (fun _=>hsP [1000] 220 [(0,.own 1000),(1,i64 a),(3,i64 b),(4,.clo g []),(18,i64 (P.length+h:Nat)),(20,i64 (P.length+s:Nat)),(24,i64 (P.length+U.length+(h-s):Nat))] (H1 (P++U1++V1++U2++V2++Q))) ?_ fun _=>?_
    . by_cases d1:s<U.length
      . refine sTm ?_
        by_cases d2:0<h-s
        . refine zac zz3 (zw ?_)
          (refine zae [] [(1000,1000)] [] ?_;(conv=>whnf);refine dGm (zxn (L:=L) (L':=P++U1++V1++U2++V2++Q) (P++U1) (V2++Q) U2 V1 (by rw [hL,eU,eV];simp) zz5 (zy34.1 zz0) (zy34.1 zz0) zz0 _ _ _ zz3 zz3 zz3) ?_ ⟨rfl,rfl,rfl,⟨zz1,trivial⟩,trivial,rfl,rfl,rfl⟩)
          exact ⟨(),(zcb [(1000,some 1000)] zz2)⟩
        . have:V1=[]:=zy14 zz0
          refine zab zz3 (zw ?_);exact ⟨(),(zcb [(1000,some 1000)] zz57)⟩
      . have:U2=[]:=zy14 zz0
        refine sNm ?_;exact ⟨(),(zcb [(1000,some 1000)] zz57)⟩
    (conv=>whnf);refine zhs.meet Unit (fun _=>hsP [1000] 220 [(0,.own 1000),(3,i64 b),(4,.clo g []),(18,i64 (P.length+h:Nat)),(24,i64 (P.length+U.length+(h-s):Nat))] (H1 (P++mrg ck U1 V1++U2++V2++Q))) ?_ fun _=>?_
    . by_cases d1:0<s
      . refine sTm ?_
        by_cases d2:s<h
        . refine zac zz3 (zw ?_)
          (refine zae [] [(1000,1000)] [] ?_;(conv=>whnf);refine dGm (ih P U1 V1 (U2++V2++Q) (P++U1++V1++U2++V2++Q) (P++mrg ck U1 V1++U2++V2++Q) zz5 zz5 zz0 (zy34.1 zz0) (zy34.1 zz0) sU1 sV1 zz3 _ _ _ zz0 zz3 zz3) ?_ ⟨rfl,rfl,rfl,⟨zz1,trivial⟩,trivial,rfl,rfl,rfl⟩)
          exact ⟨(),(zdj [(1000,some 1000)])⟩
        . have:V1=[]:=zy14 zz0
          refine zab zz3 (zw ?_);exact ⟨(),(zcb [(1000,some 1000)] (by repeat' (first | exact z0 | refine z1 ?_ | refine ⟨?_,?_⟩ | ((exact zar (by rw [ynk (.inr this)];simp))) | exact z2)))⟩
      . have:U1=[]:=zy14 zz0
        refine sNm ?_;exact ⟨(),(zcb [(1000,some 1000)] (by repeat' (first | exact z0 | refine z1 ?_ | refine ⟨?_,?_⟩ | ((exact zar (by rw [ynk (.inl this)];simp))) | exact z2)))⟩
    (conv=>whnf);have hm1:=ykb U1 V1;have hout:L'=P++mrg ck U1 V1++mrg ck U2 V2++Q:=by rw [hL',hmg];simp
    by_cases d1:s<U.length
    . refine sT ?_
      by_cases d2:h-s<V.length
      . refine zac zz3 (zw ?_)
        (refine zae [] [(1000,1000)] [] ?_;(conv=>whnf);refine dG (ih (P++mrg ck U1 V1) U2 V2 Q (P++mrg ck U1 V1++U2++V2++Q) L' zz5 hout zz0 (zy34.1 zz0) (zy34.1 zz0) sU2 sV2 zz3 _ _ _ zz3 zz3 zz3) ?_ ⟨rfl,rfl,rfl,⟨zz1,trivial⟩,trivial,rfl,rfl,rfl⟩)
        exact yy51
      . have:V2=[]:=zy14 zz0
        refine zab zz3 (zw ?_);refine zao [(1000,some 1000)] rfl rfl ⟨rfl,trivial⟩ rfl rfl ⟨⟨rfl,.inl ⟨1000,rfl,?_⟩⟩,trivial⟩;exact zar (by rw [hout,ynk (.inr this)];simp)
    . have:U2=[]:=zy14 zz0
      refine sN ?_;refine zao [(1000,some 1000)] rfl rfl ⟨rfl,trivial⟩ rfl rfl ⟨⟨rfl,.inl ⟨1000,rfl,?_⟩⟩,trivial⟩;exact zar (by rw [hout,ynk (.inl this)];simp)
end Srt
namespace Srt
def BS (s:Nat) (l:List zav):Prop:=∀ k,Sd ck ((l.drop (k*s)).take s)
theorem xbc (s:Nat):BS s []:=fun k=>by simp [Sd]
theorem zuf {s k:Nat} {l blk:List zav} (h:BS s l) (hl:l.length=k*s) (hb:blk.length<=s) (hd:Sd ck blk):BS s (l++blk):=by
 intro j;rcases Nat.lt_trichotomy j k with hj | rfl | hj
 . have:j*s+s<=l.length:=by rw [hl];have:=zy59 s (show j+1<=k by omega);rw [zy48] at this;omega
   rw [List.drop_append_of_le_length (by omega),zy76 (by simp;omega)];exact h j
 . rw [<- hl,zy105,zy37 hb];exact hd
 . have:l.length+blk.length<=j*s:=by rw [hl];have:=zy59 s (show k+1<=j by omega);rw [zy48] at this;omega
   rw [zy19 (by simp;omega)];simp [Sd]
theorem xch {s:Nat} {l:List zav} (h:BS s l) (n:Nat):BS s (l.drop (n*s)):=fun k=>by
 have:=h (n+k);rwa [zy145,<- zy48]
theorem xbb {s:Nat} {l:List zav} (h:BS s l) (hl:l.length<=s):Sd ck l:=by
 have:=h 0;rwa [Nat.zero_mul,zy100,zy37 hl] at this
theorem zqk {A B B' C:List zav} (h:srt ck B=srt ck B'):srt ck (A++B++C)=srt ck (A++B'++C):=by
 rw [<- zoi C (A++B),<- zoi C (A++B'),<- zoi B A,<- zoi B' A,h]
theorem yom (l:List zav):srt ck (srt ck l)=srt ck l:=zkq ztf
theorem yxl {U V:List zav} (hU:Sd ck U) (hV:Sd ck V):srt ck (mrg ck U V)=srt ck (U++V):=by
 rw [zkq (yup U V hU hV),<- zoi,zkq hU,zkq hV]
theorem zqf {g:FuncId} (hg:ydk g) (P X Q L L':List zav) (h1:L=P++X++Q) (h2:L'=P++srt ck X++Q) (hb:L.length<2 ^ 40) (a b:Int) (ha:a=P.length) (hb':b=(P++X).length) :
 zan Tryz.prog 217 [.own 1000,i64 a,i64 b,.clo g []] (lk .free (H1 L)) (.tup []) (lk .free (H1 L')):=by
 subst h1 h2;exact yqp hg P X Q hb a b ha hb'
theorem yld {g:FuncId} (hg:ydk g) (l:List zav) (hb:l.length<2 ^ 39) (n:Int) (hn:n=l.length) :
 zan Tryz.prog 213 [.own 1000,i64 n,.clo g []] (lk .free (H1 l)) (.tup []) (lk .free (H1 (srt ck l))):=by
 refine zap mixed Tryz.func213 zz4 [1000] zbq ?_;(conv=>whnf);refine ⟨{x:(List zav×List zav)×Nat // x.1.1.length=x.2*20/\x.1.1.length+x.1.2.length=l.length/\BS 20 x.1.1/\srt ck (x.1.1++x.1.2)=srt ck l},fun | ⟨((D,R),k),_⟩=>hsP [1000] 63 [(0,.own 1000),(1,i64 n),(2,.clo g []),(6,i64 20),(7,i64 D.length),(8,i64 (D.length+20:Nat))] (H1 (D++R)),fun x=>x.1.1.2.length,⟨(([],l),0),by simp,by simp,xbc _,rfl⟩,?_,?_⟩
 . exact (zdj [(1000,some 1000)])
 rintro ⟨⟨⟨D,R⟩,k⟩,h1,h2,h3,h4⟩;dsimp only at h1 h2 h3 h4;(conv=>whnf);by_cases c:20<=R.length
 . obtain ⟨X,R,rfl,hX⟩:∃ X R',R=X++R'/\X.length=20:=⟨R.take 20,R.drop 20,by simp,by simp;omega⟩
   simp only [zy8] at h2 c;have hsX:=zkp (key:=ck) X;refine sT ?_
   (refine zae [] [(1000,1000)] [] ?_;(conv=>whnf);refine dG (zqf hg D X R (D++(X++R)) (D++srt ck X++R) zz5 rfl zz3 _ _ rfl zz3) ?_ ⟨rfl,rfl,rfl,⟨zz1,trivial⟩,trivial,rfl,rfl,rfl⟩)
   refine sF ?_;exact ⟨⟨((D++srt ck X,R),k+1),by simp;omega,by simp;omega,zuf h3 h1 zz0 ztf,by dsimp only;rw [zqk (yom X),zy27];exact h4⟩,(zcb [(1000,some 1000)] zz2),by simp;omega⟩
 . have hsR:=zkp (key:=ck) R
   refine sN ?_
   (refine zae [] [(1000,1000)] [] ?_;(conv=>whnf);refine dG (zqf hg D R [] (D++R) (D++srt ck R) zz5 zz5 zz3 _ _ rfl zz3) ?_ ⟨rfl,rfl,rfl,⟨zz1,trivial⟩,trivial,rfl,rfl,rfl⟩)
   have hBS:BS 20 (D++srt ck R):=zuf h3 h1 zz0 ztf;have hsr:srt ck (D++srt ck R)=srt ck l:=by
    have:=zqk (A:=D) (C:=[]) (yom R);rw [zy4,zy4] at this;rw [this];exact h4
   have hlen:(D++srt ck R).length=l.length:=by simp;omega
   obtain ⟨L,hL⟩:∃ L,L=D++srt ck R:=⟨_,rfl⟩
   rw [<- hL] at hBS hsr hlen;refine ⟨{x:List zav×Nat // BS x.2 x.1/\srt ck x.1=srt ck l/\x.1.length=l.length/\0<x.2/\x.2<2 ^ 41},fun | ⟨(L,s),_⟩=>hsP [1000] 63 [(0,.own 1000),(1,i64 n),(2,.clo g []),(6,i64 s)] (H1 L),fun x=>2 ^ 41-x.1.2,⟨(L,20),hBS,hsr,hlen,by omega,by omega⟩,?_,?_⟩
   . exact (zcb [(1000,some 1000)] (by repeat' (first | exact z0 | refine z1 ?_ | refine ⟨?_,?_⟩ | ((exact zar (by rw [hL]))) | exact z2)))
   clear h1 h2 h3 h4 c hsR hBS hsr hlen hL;rintro ⟨⟨L,s⟩,h1,h2,h3,h4,h5⟩;dsimp only at h1 h2 h3 h4 h5;(conv=>whnf);by_cases c:s<l.length
   . refine sT ?_
     refine sF ?_;refine ⟨{x:(List zav×List zav)×Nat // x.1.1.length=x.2*(2*s)/\x.1.1.length+x.1.2.length=l.length/\BS (2*s) x.1.1/\BS s x.1.2/\srt ck (x.1.1++x.1.2)=srt ck l},fun | ⟨((D,R),k),_⟩=>hsP [1000] 63 [(0,.own 1000),(1,i64 n),(2,.clo g []),(6,i64 s),(7,i64 D.length),(8,i64 (D.length+2*s:Nat))] (H1 (D++R)),fun x=>x.1.1.2.length,⟨(([],L),0),by simp,by simpa using h3,xbc _,h1,h2⟩,?_,?_⟩
     . exact (zcb [(1000,some 1000)] zz2)
     rintro ⟨⟨⟨D,R⟩,k⟩,h1,h2,h3,h6,h7⟩;dsimp only at h1 h2 h3 h6 h7;(conv=>whnf);by_cases c2:2*s<=R.length
     . obtain ⟨U,V,R,rfl,hU,hV⟩:∃ U V R',R=U++V++R'/\U.length=s/\V.length=s:=⟨R.take s,(R.drop s).take s,R.drop (2*s),by
        rw [show 2*s=s+s by omega,<- zy145,zy27,zy31,zy31],by simp;omega,by simp;omega⟩
       have sU:Sd ck U:=by have:=h6 0;rwa [Nat.zero_mul,zy100,zy27,zy76 zz0,zy37 zz0] at this
       have sV:Sd ck V:=by have:=h6 1;rwa [Nat.one_mul,zy27,<- hU,zy105,hU,zy76 zz0,zy37 zz0] at this
       have hR:BS s R:=by
        have:=xch h6 2
        rwa [List.drop_left' zz3] at this
       have hm:=ykb U V;simp only [zy8] at h2 c2;refine sT ?_;refine sF ?_
       (refine zae [] [(1000,1000)] [] ?_;(conv=>whnf);refine dG (yct hg (2*s) D U V R (D++(U++V++R)) (D++mrg ck U V++R) zz5 rfl zz0 (zy34.1 zz0) (zy34.1 zz0) sU sV zz3 _ _ _ rfl zz3 zz3) ?_ ⟨rfl,rfl,rfl,⟨zz1,trivial⟩,trivial,rfl,rfl,rfl⟩)
       refine sF ?_;refine sF ?_;exact ⟨⟨((D++mrg ck U V,R),k+1),by rw [zy48];simp;omega,by simp;omega,zuf h3 h1 zz0 (yup U V sU sV),hR,by dsimp only;rw [zqk (yxl sU sV),zy27,zy27,<- zy27 U];exact h7⟩,(zcb [(1000,some 1000)] zz2),by simp;omega⟩
     . refine sN ?_
       refine sF ?_;by_cases c3:s<R.length
       . obtain ⟨U,V,rfl,hU⟩:∃ U V,R=U++V/\U.length=s:=⟨R.take s,R.drop s,by simp,by simp;omega⟩
         have sU:Sd ck U:=by have:=h6 0;rwa [Nat.zero_mul,zy100,zy76 zz0,zy37 zz0] at this
         simp only [zy8] at h2 c2 c3;have sV:Sd ck V:=by have:=h6 1;rwa [Nat.one_mul,<- hU,zy105,hU,zy37 zz0] at this
         have hm:=ykb U V;refine zac zz3 (zw ?_)
         try refine sG ?_
         (refine zae [] [(1000,1000)] [] ?_;(conv=>whnf);refine dG (yct hg (2*s) D U V [] (D++(U++V)) (D++mrg ck U V) zz5 zz5 zz0 (zy34.1 zz0) (zy34.1 zz0) sU sV zz3 _ _ _ rfl zz3 zz3) ?_ ⟨rfl,rfl,rfl,⟨zz1,trivial⟩,trivial,rfl,rfl,rfl⟩)
         refine sF ?_;have e1:=zqk (A:=D) (C:=[]) (yxl sU sV);rw [zy4,zy4] at e1;exact ⟨⟨(D++mrg ck U V,2*s),zuf h3 h1 zz0 (yup U V sU sV),by dsimp only;rw [e1];exact h7,by simp;omega,by dsimp only;omega,by dsimp only;omega⟩,(zcb [(1000,some 1000)] zz2),by dsimp only;omega⟩
       . refine zab zz3 (zw ?_)
         try refine sG ?_
         refine sF ?_;exact ⟨⟨(D++R,2*s),zuf h3 h1 zz0 (xbb h6 zz0),h7,by simp;omega,by dsimp only;omega,by dsimp only;omega⟩,(zcb [(1000,some 1000)] zz2),by dsimp only;omega⟩
   . have hsd:=xbb h1 zz0
     rw [zkq hsd] at h2;refine sN ?_;refine zao [(1000,some 1000)] rfl rfl ⟨rfl,trivial⟩ rfl rfl ⟨⟨rfl,.inl ⟨1000,rfl,?_⟩⟩,trivial⟩;exact zar (by rw [h2])
theorem yxf {g:FuncId} (hg:ydk g) (l:List zav) (hb:l.length<2 ^ 39) :
 zan Tryz.prog 207 [.own 1000,.clo g []] (lk .free (H1 l)) (.tup []) (lk .free (H1 (srt ck l))):=by
 refine zap mixed Tryz.func207 zz4 [1000] zbq ?_;(conv=>whnf)
 (refine zae [] [(1000,1000)] [] ?_;(conv=>whnf);refine dG (yld hg l hb _ zz5) ?_ ⟨rfl,rfl,rfl,⟨zz1,trivial⟩,trivial,rfl,rfl,rfl⟩)
 exact yy51
end Srt
namespace Cl
theorem yfd {α:Type} {p:α->Bool} (A B:List α) (x:α) (hA:∀ y∈A,p y=false) (hx:p x=true):zch p 0 (A++x::B)=(A.length:Int):=by
 have gen:∀ (A:List α) (k:Nat),(∀ y∈A,p y=false)->zch p k (A++x::B)=((k+A.length:Nat):Int):=by
  intro A
  induction A with
  | nil=>intro k _;simp [zch,hx]
  | cons a A ih=>intro k h;rw [zy40,zch,zy0 (by rw [h a (by simp)];decide),ih (k+1) fun y hy=>h y zz121];simp;omega
 rw [gen A 0 hA];simp
theorem yfe {α:Type} (p:α->Bool) (l:List α):(zch p 0 l=-1/\∀ y∈l,p y=false)\/∃ A x B,l=A++x::B/\(∀ y∈A,p y=false)/\p x=true:=by
 have gen:∀ (l:List α) (k:Nat),(zch p k l=-1/\∀ y∈l,p y=false)\/∃ A x B,l=A++x::B/\(∀ y∈A,p y=false)/\p x=true:=by
  intro l
  induction l with
  | nil=>intro k;exact .inl ⟨rfl,by simp⟩
  | cons a l ih =>
   intro k;cases h:p a with
   | true=>exact .inr ⟨[],a,l,rfl,by simp,h⟩
   | false =>
    rcases ih (k+1) with ⟨h1,h2⟩ | ⟨A,x,B,rfl,h2,h3⟩
    . exact .inl ⟨by rw [zch,zy0 (by rw [h];decide),h1],fun y hy=>by rcases zy13.1 hy with rfl | hy;exact h;exact h2 y hy⟩
    . exact .inr ⟨a::A,x,B,rfl,fun y hy=>by rcases zy13.1 hy with rfl | hy;exact h;exact h2 y hy,h3⟩
 exact gen l 0
theorem yoc {α:Type} {t n:Nat} {f:α->List PV} {l A B:List α} {x y:α} {i:Nat} {r:List PV} (h:l=A++x::B) (hi:i=A.length) (hr:f y=r):zai.live (.row t n ((l.map f).set i r))=zai.live (.row t n ((A++y::B).map f)):=by
 subst h hr;rw [<- zy61,Srt.zwe hi]
theorem zdb (l:List UInt8) (hb:l.length<2 ^ 40):zan Tryz.prog 70 [.p (.sl 1 (l.map zcp))] zad (.own 0) (lk .free [(0,.live (.row 5 1 (l.map zcp)))]):=by
 refine zap mixed Tryz.func70 zz4 [] (fun _=>.inl rfl) ?_;(conv=>whnf);intro b hn;(conv=>whnf);refine zaf (fun c=>?_) (fun c=>?_)
 . conv=>whnf
   exact yy24
 . conv=>whnf
   refine zaa (c:=(([]:List (List PV)).length+(l.map zcp).length)*1<=140737488355328) zz3 ?_;exact yy19
theorem zqu (l:List Int) (hb:l.length<2 ^ 40):zan Tryz.prog 74 [.p (.sl 1 (l.map (fun n=>[pi n])))] zad (.own 0) (lk .free [(0,.live (.row 3 1 (l.map (fun n=>[pi n]))))]):=by
 refine zap mixed Tryz.func74 zz4 [] (fun _=>.inl rfl) ?_;(conv=>whnf);intro b hn;(conv=>whnf);refine zaf (fun c=>?_) (fun c=>?_)
 . conv=>whnf
   exact yy24
 . conv=>whnf
   refine zaa (c:=(([]:List (List PV)).length+(l.map (fun n=>[pi n])).length)*8<=140737488355328) zz3 ?_;exact yy19
theorem zfp (l:List Span) (hb:l.length<2 ^ 40):zan Tryz.prog 150 [.p (.sl 2 (l.map Span.row))] zad (.own 0) (lk .free [(0,.live (.row 199 2 (l.map Span.row)))]):=by
 refine zap mixed Tryz.func150 zz4 [] (fun _=>.inl rfl) ?_;(conv=>whnf);intro b hn;(conv=>whnf);refine zaf (fun c=>?_) (fun c=>?_)
 . conv=>whnf
   exact yy24
 . conv=>whnf
   refine zaa (c:=(([]:List (List PV)).length+(l.map Span.row).length)*16<=140737488355328) zz3 ?_;exact yy19
theorem yit (l:List Path) (hb:l.length<2 ^ 40):zan Tryz.prog 73 [.p (.sl 7 (l.map Path.row))] zad (.own 0) (lk .free [(0,.live (.row 86 7 (l.map Path.row)))]):=by
 refine zap mixed Tryz.func73 zz4 [] (fun _=>.inl rfl) ?_;(conv=>whnf);intro b hn;(conv=>whnf);refine zaf (fun c=>?_) (fun c=>?_)
 . conv=>whnf
   exact yy24
 . conv=>whnf
   refine zaa (c:=(([]:List (List PV)).length+(l.map Path.row).length)*56<=140737488355328) zz3 ?_;exact yy19
theorem znt {g:FuncId} {c1 c2 c3:List PV} {p:zav->Bool} (hg:∀ m:zav,zan Tryz.prog g [m.hv,.rp c1,.rp c2,.rp c3] zad (zbj (p m)) zad) (q:List zav) (hb:q.length<2 ^ 62) :
 zan Tryz.prog 215 [.p (.sl 12 (q.map zav.row)),.clo g [.rp c1,.rp c2,.rp c3]] zad (i64 (zch p 0 q)) zad:=by
 refine zal mixed Tryz.func215 zz4 ?_;(conv=>whnf);refine ⟨{k:Nat // k<=q.length/\zch p k (q.drop k)=zch p 0 q},fun | ⟨k,_⟩=>hs 19 [(0,.p (.sl 12 (q.map zav.row))),(1,.clo g [.rp c1,.rp c2,.rp c3]),(7,i64 (q.map zav.row).length),(8,i64 k)] [],fun k=>q.length-k.1,⟨0,by simp⟩,?_,?_⟩
 . exact (zbi [])
 . rintro ⟨k,hk,hi⟩
   exact yy5
theorem ydv {g:FuncId} {c1 c2 c3:List PV} {p:zav->Bool} (hg:∀ m:zav,zan Tryz.prog g [m.hv,.rp c1,.rp c2,.rp c3] zad (zbj (p m)) zad) (A0 B0:List zav) (x:zav) (hA:∀ y∈A0,p y=false) (hx:p x=true) (hb:(A0++x::B0).length<2 ^ 38) :
 zan Tryz.prog 210 [.own 1000,.clo g [.rp c1,.rp c2,.rp c3]] (lk .free [(1000,.live (.row 162 12 ((A0++x::B0).map zav.row)))])
  (.osl 1000 12 0 ((A0++x::B0).filter fun y=>!p y).length) (lk .free [(1000,.live (.row 162 12 ((((A0++x::B0).filter fun y=>!p y).map zav.row)++List.replicate ((A0++x::B0).length-((A0++x::B0).filter fun y=>!p y).length) ([pi 0,pi 0,pi 0,pi 0,pi 0,pi 0,pb false,pb false,.v (.slice none 0 0),.v (.slice none 0 0),pi 0,.v (.slice none 0 0)]))))]):=by
 refine zap mixed Tryz.func210 zz4 [1000] zbq ?_;have hfA:A0.filter (fun y=>!p y)=A0:=zy92.2 fun y hy=>by rw [hA y hy];rfl
 have hlen:(A0++x::B0).length=A0.length+1+B0.length:=by simp;omega
 conv=>whnf
 (refine cL ?_;refine dL (znt hg (A0++x::B0) zz0) ?_)
 rw [yfd A0 B0 x hA hx];(conv=>whnf)
 try refine sG ?_
 refine sF ?_;refine ⟨{y:(List zav×List zav)×List zav×List zav // A0++x::B0=y.1.1++y.1.2/\y.2.1=y.1.1.filter (fun z=>!p z)/\0<y.2.2.length/\y.2.1.length+y.2.2.length=y.1.1.length},fun | ⟨((A,B),K,G),_⟩=>hsP [1000] 42 [(0,.own 1000),(1,.clo g [.rp c1,.rp c2,.rp c3]),(5,i64 K.length),(6,i64 A.length)] [(1000,.live (.row 162 12 ((K++G++B).map zav.row)))],fun y=>y.1.1.2.length,⟨((A0++[x],B0),A0,[x]),by simp,by simp [hfA,hx],by simp,by simp⟩,?_,?_⟩
 . exact (zcb [(1000,some 1000)] zz23)
 rintro ⟨⟨⟨A,B⟩,K,G⟩,h,hK,hG,hl⟩;dsimp only at h hK hG hl;have hAB:(A0++x::B0).length=A.length+B.length:=by rw [h];simp
 (conv=>whnf);cases B with
 | nil =>
  rw [zy12] at hAB;rw [zy4] at h;have hF:(A0++x::B0).filter (fun z=>!p z)=K:=by rw [h,hK]
  refine zab zz3 (zw ?_)
  try refine sG ?_
  refine sOm ?_;refine sOm ?_;refine zaa zz62 (zw ?_);refine zao [(1000,some 1000)] rfl rfl ⟨rfl,trivial⟩ rfl ?_ ⟨⟨rfl,.inl ⟨1000,rfl,?_⟩⟩,trivial⟩
  . show HV.osl 1000 12 0 _=HV.osl 1000 12 0 _
    rw [hF];rfl
  . refine zar ?_
    rw [hF,zcv,zy4,zy33,zy19 (by simp;omega),zy4];congr 1
    . exact zy87 zz5
    . congr 1;simp;omega
 | cons v B =>
  rw [zy6] at hAB;have e1:K++G++v::B=(K++G)++v::B:=rfl;refine zac zz3 (zw ?_)
  try refine sG ?_
  refine sO ?_;refine zaj e1 zz3 (zw ?_)
  (refine cZ ?_;refine dL (hg v) ?_)
  cases hv:p v with
  | true =>
   exact yy100
  | false =>
   obtain ⟨g0,G,rfl⟩:∃ g0 G',G=g0::G':=by cases G with
    | nil=>simp at hG
    | cons a b=>exact ⟨a,b,rfl⟩
   have e2:K++(g0::G)++v::B=K++g0::(G++v::B):=by simp
   rw [zy6] at hl;(conv=>whnf)
   try refine sG ?_
   refine sO ?_;refine zaj e2 zz5 (zw ?_);refine sF ?_;refine sF ?_;refine ⟨⟨((A++[v],B),K++[v],G++[v]),by rw [h];simp,by rw [zy42,<- hK];simp [hv],by simp,by simp;omega⟩,(zcb [(1000,some 1000)] (by repeat' (first | exact z0 | refine z1 ?_ | refine ⟨?_,?_⟩ | ((exact zbk om)) | ((exact (zeg (f:=zav.row) (a:=K) (b:=G++v::B) (x:=g0) (y:=v) (by simp) rfl).symm.trans (zar (by simp)))) | ((refine (yoc e2 ?_ rfl).trans (zar (by simp));simp)) | exact z2))),by simp⟩
theorem yph {g:FuncId} {c1 c2 c3:List PV} {p:zav->Bool} (hg:∀ m:zav,zan Tryz.prog g [m.hv,.rp c1,.rp c2,.rp c3] zad (zbj (p m)) zad) (l:List zav) (hb:l.length<2 ^ 38) :
 zan Tryz.prog 210 [.own 1000,.clo g [.rp c1,.rp c2,.rp c3]] (lk .free [(1000,.live (.row 162 12 (l.map zav.row)))])
  (.own 0) (lk .free [(1000,.dead),(0,.live (.row 162 12 ((l.filter fun y=>!p y).map zav.row)))]):=by
 rcases yfe p l with ⟨h1,h2⟩ | ⟨A,x,B,rfl,hA,hx⟩
 . refine zap mixed Tryz.func210 zz4 [1000] zbq ?_
   rw [zy92.2 fun y hy=>by rw [h2 y hy];rfl];(conv=>whnf)
   (refine cL ?_;refine dL (znt hg l zz0) ?_)
   exact yy111
 . have h:=zkb (d:=0) (L:=[]) (rows:=(((A++x::B).filter fun y=>!p y).map zav.row)++List.replicate ((A++x::B).length-((A++x::B).filter fun y=>!p y).length) ([pi 0,pi 0,pi 0,pi 0,pi 0,pi 0,pb false,pb false,.v (.slice none 0 0),.v (.slice none 0 0),pi 0,.v (.slice none 0 0)])) (ydv hg A B x hA hx hb) (.inl rfl) zz5 rfl zz4
   rwa [zy87 zz5] at h
end Cl
namespace Paths
def new (part:Int):Path:=⟨W (2*part),W (32*part),0,0,0,0,3⟩
def zjw (p:Path) (bytes part:Int) (moved:Bool):Path :=
 match moved with
 | false=>p
 | true =>
  if bytes=0 then {p with errors:=0,wait:=3,zcs:=0} else
  if p.window<=p.slow then {p with errors:=0,wait:=3,zcs:=0,window:=W (p.window+min bytes part)} else
  if W (p.gathered+bytes)>=p.window then {p with errors:=0,wait:=3,zcs:=0,gathered:=W (W (p.gathered+bytes)-p.window),window:=W (p.window+part)} else
  {p with errors:=0,wait:=3,zcs:=0,gathered:=W (p.gathered+bytes)}
def zpk (p:Path) (part:Int):Path :=
 {p with slow:=max (W (p.window.tdiv 2)) (W (4*part)),window:=min p.window (max (W (p.window.tdiv 2)) (W (4*part))),gathered:=0}
def late (p:Path) (part:Int):Path :=
 {p with slow:=max (W (p.window.tdiv 2)) (W (4*part)),window:=part,gathered:=0,zba:=0,errors:=W (p.errors+1),wait:=min (W (2*p.wait)) 24,zcs:=0}
def zeb (k:Nat):List Path->Int
 | []=>0
 | p::r=>if p.errors<=3 then k else zeb (k+1) r
theorem zyq (a b:Int):(if b<a then b else a)=min a b:=by omega
theorem zyp (a b:Int):(if b>a then b else a)=max a b:=by omega
theorem zqh (part:Int):zan Tryz.prog 67 [i64 part] zad (new part).hv zad:=by
 refine zal mixed Tryz.func67 zz4 ?_;(conv=>whnf)
 repeat' (first | (refine zaf (fun h=>?_) (fun h=>?_)<;>conv=>whnf) | (refine zce ?_;conv=>whnf))
 rfl
theorem yqh (p:Path) (bytes part:Int) (moved:Bool):zan Tryz.prog 77 [p.hv,i64 bytes,i64 part,zbj moved] zad (zjw p bytes part moved).hv zad:=by
 cases moved
 all_goals refine zal mixed Tryz.func77 zz4 ?_
 all_goals conv=>whnf
 all_goals (repeat' (first | (refine zce ?_;conv=>whnf) | (refine zaa ?_ ?_;(first | kernel_rfl | decide);conv=>whnf) | (refine zaw ?_ ?_;kernel_rfl;conv=>whnf) | (refine zhs.go ?_;conv=>whnf) | (refine zbg ?_;(conv=>whnf);refine ⟨_,zhd ⟨_,_,_,_,_,_,_⟩ _,rfl,?_⟩;conv=>whnf) | (refine zaf (fun h=>?_) (fun h=>?_)<;>conv=>whnf)))
 all_goals try simp only [zy2,zy44,zy47,zy15,zy5,zy43,zy28] at *
 all_goals simp only [zjw,W]
 all_goals (repeat' split)
 all_goals first | rfl | omega | (simp only [Path.hv,zyq,zyp,HV.agg.injEq,List.cons.injEq,HV.p.injEq,PV.v.injEq,Value.int.injEq,true_and,and_true]<;>first | omega | (congr 1;omega))
theorem ykw (p:Path) (bytes part:Int) (moved:Bool):zan Tryz.prog 85 [p.hv,i64 bytes,i64 part,zbj moved] zad (zjw p bytes part moved).hv zad:=by
 cases moved
 all_goals refine zal mixed Tryz.func85 zz4 ?_
 all_goals conv=>whnf
 all_goals (repeat' (first | (refine zce ?_;conv=>whnf) | (refine zaa ?_ ?_;(first | kernel_rfl | decide);conv=>whnf) | (refine zaw ?_ ?_;kernel_rfl;conv=>whnf) | (refine zhs.go ?_;conv=>whnf) | (refine zbg ?_;(conv=>whnf);refine ⟨_,zhd ⟨_,_,_,_,_,_,_⟩ _,rfl,?_⟩;conv=>whnf) | (refine zaf (fun h=>?_) (fun h=>?_)<;>conv=>whnf)))
 all_goals try simp only [zy2,zy44,zy47,zy15,zy5,zy43,zy28] at *
 all_goals simp only [zjw,W]
 all_goals (repeat' split)
 all_goals first | rfl | omega | (simp only [Path.hv,zyq,zyp,HV.agg.injEq,List.cons.injEq,HV.p.injEq,PV.v.injEq,Value.int.injEq,true_and,and_true]<;>first | omega | (congr 1;omega))
theorem zhd (p:Path) (part:Int):zan Tryz.prog 80 [p.hv,i64 part] zad (zpk p part).hv zad:=by
 refine zal mixed Tryz.func80 zz4 ?_;(conv=>whnf)
 (repeat' (first | (refine zce ?_;conv=>whnf) | (refine zaa ?_ ?_;(first | kernel_rfl | decide);conv=>whnf) | (refine zaw ?_ ?_;kernel_rfl;conv=>whnf) | (refine zhs.go ?_;conv=>whnf) | (refine zbg ?_;(conv=>whnf);refine ⟨_,zhd ⟨_,_,_,_,_,_,_⟩ _,rfl,?_⟩;conv=>whnf) | (refine zaf (fun h=>?_) (fun h=>?_)<;>conv=>whnf)))
 all_goals try simp only [zy2,zy44,zy47,zy15,zy5,zy43,zy28] at *
 all_goals simp only [zpk,W]
 all_goals (repeat' split)
 all_goals first | rfl | omega | (simp only [Path.hv,zyq,zyp,HV.agg.injEq,List.cons.injEq,HV.p.injEq,PV.v.injEq,Value.int.injEq,true_and,and_true]<;>first | omega | (congr 1;omega))
theorem zte (p:Path) (part:Int):zan Tryz.prog 88 [p.hv,i64 part] zad (zpk p part).hv zad:=by
 refine zal mixed Tryz.func88 zz4 ?_;(conv=>whnf)
 (repeat' (first | (refine zce ?_;conv=>whnf) | (refine zaa ?_ ?_;(first | kernel_rfl | decide);conv=>whnf) | (refine zaw ?_ ?_;kernel_rfl;conv=>whnf) | (refine zhs.go ?_;conv=>whnf) | (refine zbg ?_;(conv=>whnf);refine ⟨_,zhd ⟨_,_,_,_,_,_,_⟩ _,rfl,?_⟩;conv=>whnf) | (refine zaf (fun h=>?_) (fun h=>?_)<;>conv=>whnf)))
 all_goals try simp only [zy2,zy44,zy47,zy15,zy5,zy43,zy28] at *
 all_goals simp only [zpk,W]
 all_goals (repeat' split)
 all_goals first | rfl | omega | (simp only [Path.hv,zyq,zyp,HV.agg.injEq,List.cons.injEq,HV.p.injEq,PV.v.injEq,Value.int.injEq,true_and,and_true]<;>first | omega | (congr 1;omega))
theorem zwj (p:Path) (part:Int):zan Tryz.prog 91 [p.hv,i64 part] zad (late p part).hv zad:=by
 refine zal mixed Tryz.func91 zz4 ?_;(conv=>whnf)
 (repeat' (first | (refine zce ?_;conv=>whnf) | (refine zaa ?_ ?_;(first | kernel_rfl | decide);conv=>whnf) | (refine zaw ?_ ?_;kernel_rfl;conv=>whnf) | (refine zhs.go ?_;conv=>whnf) | (refine zbg ?_;(conv=>whnf);refine ⟨_,zhd ⟨_,_,_,_,_,_,_⟩ _,rfl,?_⟩;conv=>whnf) | (refine zaf (fun h=>?_) (fun h=>?_)<;>conv=>whnf)))
 all_goals try simp only [zy2,zy44,zy47,zy15,zy5,zy43,zy28] at *
 all_goals simp only [late,W]
 all_goals (repeat' split)
 all_goals first | rfl | omega | (simp only [Path.hv,zyq,zyp,HV.agg.injEq,List.cons.injEq,HV.p.injEq,PV.v.injEq,Value.int.injEq,true_and,and_true]<;>first | omega | (congr 1;omega))
theorem yqz (p:Path) (part:Int):zan Tryz.prog 92 [p.hv,i64 part] zad (late p part).hv zad:=by
 refine zal mixed Tryz.func92 zz4 ?_;(conv=>whnf)
 (repeat' (first | (refine zce ?_;conv=>whnf) | (refine zaa ?_ ?_;(first | kernel_rfl | decide);conv=>whnf) | (refine zaw ?_ ?_;kernel_rfl;conv=>whnf) | (refine zhs.go ?_;conv=>whnf) | (refine zbg ?_;(conv=>whnf);refine ⟨_,zte ⟨_,_,_,_,_,_,_⟩ _,rfl,?_⟩;conv=>whnf) | (refine zaf (fun h=>?_) (fun h=>?_)<;>conv=>whnf)))
 all_goals try simp only [zy2,zy44,zy47,zy15,zy5,zy43,zy28] at *
 all_goals simp only [late,zpk,W]
 all_goals (repeat' split)
 all_goals first | rfl | omega | (simp only [Path.hv,zyq,zyp,HV.agg.injEq,List.cons.injEq,HV.p.injEq,PV.v.injEq,Value.int.injEq,true_and,and_true]<;>first | omega | (congr 1;omega))
theorem zkl (p:Path):zan Tryz.prog 133 [p.hv] zad (zbj (decide (p.zba<p.window))) zad:=by
 refine zal mixed Tryz.func133 zz4 ?_;(conv=>whnf)
theorem zeq (ps:List Path) (hb:ps.length<2 ^ 62):zan Tryz.prog 79 [.p (.sl 7 (ps.map Path.row))] zad (i64 (zeb 0 ps)) zad:=by
 refine zal mixed Tryz.func79 zz4 ?_;exact yy17
theorem zjo (ps:List Path) (hb:ps.length<2 ^ 62):zan Tryz.prog 87 [.p (.sl 7 (ps.map Path.row))] zad (i64 (zeb 0 ps)) zad:=by
 refine zal mixed Tryz.func87 zz4 ?_;exact yy17
end Paths
namespace Sch
abbrev qs (q:List zak):HV:=.p (.sl 10 (q.map zak.row))
def first (q:List zak) (stream:Int):Int:=zch (fun m:zak=>m.message.stream==stream) 0 q
def after (q:List zak) (last streams:Int):Nat->Nat->Int
 | _,0=>-1
 | k,n+1=>if first q ((W (W (last+1)+k)).tmod streams)>=0 then first q ((W (W (last+1)+k)).tmod streams) else after q last streams (k+1) n
theorem ykq (m:zak) (stream:Int):zan Tryz.prog 186 [m.hv,.rp [pi stream]] zad (zbj (m.message.stream==stream)) zad:=by
 refine zal mixed Tryz.func186 zz4 ?_;(conv=>whnf)
theorem zry (m:zak) (s:zhr):zan Tryz.prog 163 [m.hv,.rp s.row] zad (zbj (m.id==s.hand)) zad:=by
 refine zal mixed Tryz.func163 zz4 ?_;(conv=>whnf)
theorem yok {g:FuncId} {cs:List PV} {p:zak->Bool} (hg:∀ m:zak,zan Tryz.prog g [m.hv,.rp cs] zad (zbj (p m)) zad) (q:List zak) (hb:q.length<2 ^ 62) :
 zan Tryz.prog 158 [qs q,.clo g [.rp cs]] zad (i64 (zch p 0 q)) zad:=by
 refine zal mixed Tryz.func158 zz4 ?_;(conv=>whnf);refine ⟨{k:Nat // k<=q.length/\zch p k (q.drop k)=zch p 0 q},fun | ⟨k,_⟩=>hs 19 [(0,qs q),(1,.clo g [.rp cs]),(7,i64 (q.map zak.row).length),(8,i64 k)] [],fun k=>q.length-k.1,⟨0,by simp⟩,?_,?_⟩
 . exact zcl [] rfl rfl rfl rfl ⟨⟨rfl,rfl⟩,⟨rfl,rfl⟩,⟨rfl,rfl⟩,⟨rfl,rfl⟩,trivial⟩ trivial
 . rintro ⟨k,hk,hi⟩
   (conv=>whnf);refine zaf (fun h=>?_) (fun h=>?_)
   . have hlt:k<q.length:=by simpa using h
     (conv=>whnf);refine zcc (r:=(q[k]).row) zz5 zz112 ?_;(conv=>whnf);refine zgb (zw ?_);refine ⟨_,hg q[k],rfl,zw ?_⟩;rw [zy18 hlt] at hi;simp only [zch] at hi;refine zaf (fun h=>?_) (fun h=>?_)
     . conv=>whnf
       rw [zy1 h] at hi;rw [<- hi]
     . conv=>whnf
       rw [zy0 (by rw [h];decide)] at hi;refine zaq (zbu zz0 zz0) ?_;(conv=>whnf);exact ⟨⟨k+1,hlt,hi⟩,zcl [] rfl rfl rfl rfl ⟨⟨rfl,rfl⟩,⟨rfl,rfl⟩,⟨rfl,rfl⟩,⟨rfl,by simp;rfl⟩,trivial⟩ trivial,by dsimp only;omega⟩
   . conv=>whnf
     have hge:q.length<=k:=by simpa using h
     rw [zy19 hge] at hi;rw [<- hi];rfl
theorem zng (q:List zak) (stream:Int) (hb:q.length<2 ^ 62):zan Tryz.prog 165 [qs q,i64 stream] zad (i64 (first q stream)) zad:=by
 refine zal mixed Tryz.func165 zz4 ?_;(conv=>whnf);refine zbg (zw ?_);refine ⟨_,yok (fun m=>ykq m stream) q hb,rfl,?_⟩;(conv=>whnf)
 rfl
theorem yqi (q:List zak) (last streams:Int) (h0:0<streams) (h9:streams<2 ^ 62) (hb:q.length<2 ^ 62):zan Tryz.prog 164 [qs q,i64 last,i64 streams] zad (i64 (after q last streams 0 streams.toNat)) zad:=by
 refine zal mixed Tryz.func164 zz4 ?_;(conv=>whnf);refine ⟨{k:Nat // (k:Int)<=streams/\after q last streams k (streams.toNat-k)=after q last streams 0 streams.toNat},fun | ⟨k,_⟩=>hs 25 [(0,qs q),(1,i64 last),(2,i64 streams),(9,i64 streams),(10,i64 k)] [],fun k=>streams.toNat-k.1,⟨0,by omega,rfl⟩,?_,?_⟩
 . exact zcl [] rfl rfl rfl rfl ⟨⟨rfl,rfl⟩,⟨rfl,rfl⟩,⟨rfl,rfl⟩,⟨rfl,rfl⟩,⟨rfl,rfl⟩,trivial⟩ trivial
 . rintro ⟨k,hk,hi⟩
   (conv=>whnf);refine zaf (fun h=>?_) (fun h=>?_)
   . have hlt:(k:Int)<streams:=by simpa using h
     (conv=>whnf);refine zce (zw ?_);refine zce (zw ?_);refine zaa zz0 (zw ?_);refine zbg (zw ?_);refine ⟨_,zng q _ hb,rfl,zw ?_⟩;obtain ⟨j,hj⟩:∃ j,streams.toNat-k=j+1:=⟨streams.toNat-k-1,by omega⟩
     rw [hj] at hi;simp only [after] at hi;refine zaf (fun h=>?_) (fun h=>?_)
     . conv=>whnf
       rw [zy1 (zy24 h)] at hi;rw [<- hi]
     . conv=>whnf
       rw [zy0 (zy32 h)] at hi;refine zaq (zbu zz0 zz0) ?_;(conv=>whnf);exact ⟨⟨k+1,by omega,by rw [show streams.toNat-(k+1)=j by omega];exact hi⟩,zcl [] rfl rfl rfl rfl ⟨⟨rfl,rfl⟩,⟨rfl,rfl⟩,⟨rfl,rfl⟩,⟨rfl,rfl⟩,⟨rfl,by simp;rfl⟩,trivial⟩ trivial,by dsimp only;omega⟩
   . conv=>whnf
     have hge:¬ (k:Int)<streams:=by simpa using h
     rw [show streams.toNat-k=0 by omega] at hi;rw [<- hi];rfl
def zen (q:List zak) (had:List Int) (best:Int) (k:Nat):List Int->Int
 | []=>best
 | n::r=>if first q k>=0/\(best<0\/n<had[best.toNat]?.getD 0) then zen q had k (k+1) r else zen q had best (k+1) r
def least (s:zhr) (q:List zak):Int:=if zen q s.had (-1) 0 s.had<0 then -1 else first q (zen q s.had (-1) 0 s.had)
theorem yqq (s:zhr) (q:List zak) (h9:s.had.length<2 ^ 62) (hb:q.length<2 ^ 62):zan Tryz.prog 166 [s.hv,qs q] zad (i64 (least s q)) zad:=by
 refine zal mixed Tryz.func166 zz4 ?_;(conv=>whnf);refine ⟨{x:Nat×Int // x.1<=s.had.length/\x.2<s.had.length/\zen q s.had x.2 x.1 (s.had.drop x.1)=zen q s.had (-1) 0 s.had},fun | ⟨(k,best),_⟩=>hs 40 [(1,qs q),(2,.ptr 2 0),(5,i64 best),(9,ints s.had),(10,i64 (s.had.map fun n=>[pi n]).length),(11,i64 k)] [(2,.live (.cells 28 s.cells))],fun x=>s.had.length-x.1.1,⟨(0,-1),by simp,by dsimp only;omega,rfl⟩,?_,?_⟩
 . exact zcl [(2,some 2)] rfl rfl rfl rfl ⟨⟨rfl,rfl⟩,⟨rfl,rfl⟩,⟨rfl,rfl⟩,⟨rfl,rfl⟩,⟨rfl,rfl⟩,⟨rfl,rfl⟩,trivial⟩ ⟨⟨rfl,.inl ⟨2,rfl,rfl⟩⟩,trivial⟩
 . rintro ⟨⟨k,best⟩,hk,hlt2,hi⟩
   dsimp only at hk hlt2 hi;(conv=>whnf);refine zaf (fun h=>?_) (fun h=>?_)
   . have hlt:k<s.had.length:=by simpa using h
     have hW:W ((k:Int)+1)=((k+1:Nat):Int):=yrw hlt h9;rw [zy18 hlt] at hi;simp only [zen] at hi;have fin:∀ {b':Int} {s':HS},b'<s.had.length->zen q s.had b' (k+1) (s.had.drop (k+1))=zen q s.had (-1) 0 s.had->s'.n=40->s'.pins=[]->s'.slot 1=qs q->s'.slot 2=.ptr 2 0->s'.slot 5=i64 b'->s'.slot 9=ints s.had->s'.slot 10=i64 (s.had.map fun n=>[pi n]).length->s'.slot 11=i64 (W (k+1)) ->
      s'.heap 2=.live (.cells 28 s.cells)->∃ x':{x:Nat×Int // x.1<=s.had.length/\x.2<s.had.length/\zen q s.had x.2 x.1 (s.had.drop x.1)=zen q s.had (-1) 0 s.had},HLe s' (match x' with | ⟨(k,best),_⟩=>hs 40 [(1,qs q),(2,.ptr 2 0),(5,i64 best),(9,ints s.had),(10,i64 (s.had.map fun n=>[pi n]).length),(11,i64 k)] [(2,.live (.cells 28 s.cells))])/\s.had.length-x'.1.1<s.had.length-k:=by
      intro b' s' a1 a2 a3 a4 a5 a6 a7 a8 a9 a10 a11;rw [hW] at a10;exact ⟨⟨(k+1,b'),hlt,a1,a2⟩,zcl [(2,some 2)] a3.symm a4.symm rfl rfl ⟨⟨rfl,a5.symm⟩,⟨rfl,a6.symm⟩,⟨rfl,a7.symm⟩,⟨rfl,a8.symm⟩,⟨rfl,a9.symm⟩,⟨rfl,a10.symm⟩,trivial⟩ ⟨⟨rfl,.inl ⟨2,rfl,a11⟩⟩,trivial⟩,by dsimp only;omega⟩
     (conv=>whnf);refine zhs.go (zw ?_);refine zcc (r:=[pi s.had[k]]) zz0 zz112 ?_;(conv=>whnf);refine zbg (zw ?_);refine ⟨_,zng q k hb,rfl,zw ?_⟩;refine zaf (fun c1=>?_) (fun c1=>?_)
     . conv=>whnf
       refine zaf (fun c2=>?_) (fun c2=>?_)
       . conv=>whnf
         refine zce (zw ?_);rw [zy1 ⟨zy24 c1,.inl (zy24 c2)⟩] at hi;exact fin zz0 hi rfl rfl rfl rfl rfl rfl rfl rfl rfl
       . conv=>whnf
         have hb0:¬ best<0:=zy32 c2;refine zcc (r:=[pi s.had[best.toNat]]) zz0 (by simp [show best.toNat<s.had.length by omega]) ?_;(conv=>whnf);refine zaf (fun c3=>?_) (fun c3=>?_)
         . conv=>whnf
           refine zce (zw ?_);rw [zy1 ⟨zy24 c1,.inr (by simpa [show best.toNat<s.had.length by omega] using c3)⟩] at hi;exact fin zz0 hi rfl rfl rfl rfl rfl rfl rfl rfl rfl
         . conv=>whnf
           refine zce (zw ?_);rw [zy0 (by rintro ⟨_,h | h⟩;exact hb0 h;have:=zy32 c3;simp [show best.toNat<s.had.length by omega] at h;omega)] at hi;exact fin zz0 hi rfl rfl rfl rfl rfl rfl rfl rfl rfl
     . conv=>whnf
       refine zce (zw ?_);rw [zy0 (by rintro ⟨h,_⟩;exact zy32 c1 h)] at hi;exact fin zz0 hi rfl rfl rfl rfl rfl rfl rfl rfl rfl
   . have hge:s.had.length<=k:=by simpa using h
     rw [zy19 hge] at hi;simp only [zen] at hi;(conv=>whnf);refine zaf (fun c1=>?_) (fun c1=>?_)
     . conv=>whnf
       rw [least,<- hi,zy1 (zy24 c1)]
     . conv=>whnf
       refine zbg (zw ?_);refine ⟨_,zng q best hb,rfl,zw ?_⟩;rw [least,<- hi,zy0 (zy32 c1)]
def zgr (q:List zak) (k:Nat):Nat->Int
 | 0=>-1
 | n+1=>if first q k>=0 then first q k else zgr q (k+1) n
def zpr (s:zhr) (q:List zak):Int:=zch (fun m:zak=>m.id==s.hand) 0 q
def next (turns:Int) (s:zhr) (q:List zak):Int :=
 if (q.length:Int)=0 then -1 else if (s.had.length:Int)=0 then -1 else
 if turns=2 then (if zpr s q>=0 then zpr s q else after q s.last s.had.length 0 s.had.length) else
 if turns=3 then after q s.last s.had.length 0 s.had.length else
 if turns=4 then zgr q 0 s.had.length else
 if turns=5 then least s q else 0
theorem zwk (turns:Int) (s:zhr) (q:List zak) (h9:s.had.length<2 ^ 62) (hb:q.length<2 ^ 62):zan Tryz.prog 135 [i64 turns,s.hv,qs q] zad (i64 (next turns s q)) zad:=by
 refine zal mixed Tryz.func135 zz4 ?_;have hl:(s.had.map fun n=>[pi n]).length=s.had.length:=by simp
 have hl2:(q.map zak.row).length=q.length:=by simp
 have haft:0<s.had.length->zan Tryz.prog 164 [qs q,i64 s.last,i64 (s.had.map fun n=>[pi n]).length] zad (i64 (after q s.last s.had.length 0 s.had.length)) zad:=by
  intro h0;have:=yqi q s.last s.had.length zz0 zz0 hb;rw [hl]
  simpa using this
 (conv=>whnf);refine zaf (fun c1=>?_) (fun c1=>?_)
 . have c1:(q.length:Int)=0:=by simpa using c1
   (conv=>whnf);rw [next,zy1 c1]
 have c1:¬ (q.length:Int)=0:=by simpa using c1
 rw [next,zy0 c1];(conv=>whnf);refine zaf (fun c2=>?_) (fun c2=>?_)
 . have c2:(s.had.length:Int)=0:=by simpa using c2
   (conv=>whnf);rw [zy1 c2]
 have c2:¬ (s.had.length:Int)=0:=by simpa using c2
 rw [zy0 c2];(conv=>whnf);refine zaf (fun c3=>?_) (fun c3=>?_)
 . have c3:turns=2:=by simpa using c3
   rw [zy1 c3];(conv=>whnf);refine zbg (zw ?_);refine ⟨_,yok (fun m=>zry m s) q hb,rfl,?_⟩;show _;(conv=>whnf);refine zaf (fun c4=>?_) (fun c4=>?_)
   . have c4:zpr s q>=0:=zy24 c4
     rw [zy1 c4];(conv=>whnf)
     rfl
   . have c4:¬ zpr s q>=0:=zy32 c4
     rw [zy0 c4];(conv=>whnf);refine zbg (zw ?_);refine ⟨_,haft zz0,rfl,?_⟩;(conv=>whnf)
 have c3:¬ turns=2:=by simpa using c3
 rw [zy0 c3];(conv=>whnf);refine zaf (fun c4=>?_) (fun c4=>?_)
 . have c4:turns=3:=by simpa using c4
   rw [zy1 c4];(conv=>whnf);refine zbg (zw ?_);refine ⟨_,haft zz0,rfl,?_⟩;(conv=>whnf)
 have c4:¬ turns=3:=by simpa using c4
 rw [zy0 c4];(conv=>whnf);refine zaf (fun c5=>?_) (fun c5=>?_)
 . have c5:turns=4:=by simpa using c5
   rw [zy1 c5];(conv=>whnf);refine ⟨{k:Nat // k<=s.had.length/\zgr q k (s.had.length-k)=zgr q 0 s.had.length},fun | ⟨k,_⟩=>hs 64 [(2,qs q),(47,i64 s.had.length),(48,i64 k)] [],fun k=>s.had.length-k.1,⟨0,by omega,rfl⟩,?_,?_⟩
   . exact zcl [] rfl rfl rfl rfl ⟨⟨rfl,rfl⟩,⟨rfl,by rw [<- hl];rfl⟩,⟨rfl,rfl⟩,trivial⟩ trivial
   . rintro ⟨k,hk,hi⟩
     (conv=>whnf);refine zaf (fun h=>?_) (fun h=>?_)
     . have hlt:k<s.had.length:=by simpa using h
       (conv=>whnf);refine zbg (zw ?_);refine ⟨_,zng q k hb,rfl,zw ?_⟩;obtain ⟨j,hj⟩:∃ j,s.had.length-k=j+1:=⟨s.had.length-k-1,by omega⟩
       rw [hj] at hi;simp only [zgr] at hi;refine zaf (fun h=>?_) (fun h=>?_)
       . conv=>whnf
         rw [zy1 (zy24 h)] at hi;rw [<- hi]
       . conv=>whnf
         rw [zy0 (zy32 h)] at hi;refine zaq (zbu zz0 zz0) ?_;(conv=>whnf);exact ⟨⟨k+1,by omega,by rw [show s.had.length-(k+1)=j by omega];exact hi⟩,zcl [] rfl rfl rfl rfl ⟨⟨rfl,rfl⟩,⟨rfl,rfl⟩,⟨rfl,by simp;rfl⟩,trivial⟩ trivial,by dsimp only;omega⟩
     . conv=>whnf
       have hge:s.had.length<=k:=by simpa using h
       rw [show s.had.length-k=0 by omega] at hi;rw [<- hi];rfl
 have c5:¬ turns=4:=by simpa using c5
 rw [zy0 c5];(conv=>whnf);refine zaf (fun c6=>?_) (fun c6=>?_)
 . have c6:turns=5:=by simpa using c6
   rw [zy1 c6];(conv=>whnf);refine zbg (zw ?_);refine ⟨_,yqq s q h9 hb,rfl,?_⟩;(conv=>whnf)
 have c6:¬ turns=5:=by simpa using c6
 rw [zy0 c6];(conv=>whnf)
theorem yqj (l:List Int) (hb:l.length<2 ^ 40):zan Tryz.prog 74 [ints l] zad (.own 0) (lk .free [(0,.live (.row 3 1 (l.map fun n=>[pi n])))]):=by
 refine zap mixed Tryz.func74 zz4 [] (fun _=>.inl rfl) ?_;(conv=>whnf);intro b hn;(conv=>whnf);refine zaf (fun c=>?_) (fun c=>?_)
 . conv=>whnf
   exact yy24
 . conv=>whnf
   refine zaa (c:=(([]:List (List PV)).length+(l.map fun n=>[pi n]).length)*8<=140737488355328) zz3 ?_;exact yy19
theorem zdt (s:zhr) (hb:s.had.length<2 ^ 40):zan Tryz.prog 71 [s.hv] zad (.agg [i64 s.last,i64 s.hand,.own 0]) (lk .free [(0,.live (.row 3 1 (s.had.map fun n=>[pi n])))]):=by
 refine zap mixed Tryz.func71 zz4 [] (fun _=>.inl rfl) ?_;(conv=>whnf);refine zat [(0,5)] (zw ?_);refine ⟨_,_,yqj s.had hb,⟨⟨⟨rfl,rfl⟩,trivial⟩,rfl,rfl,rfl⟩,?_⟩;(conv=>whnf);exact zao [(0,some 5)] rfl rfl trivial rfl rfl ⟨⟨rfl,.inl ⟨5,rfl,rfl⟩⟩,trivial⟩
def had (s:zhr) (m:zak) (bytes:Int) (zxl:Bool):zhr :=
 ⟨m.message.stream,if zxl then -1 else m.id,if 0<=m.message.stream/\m.message.stream<s.had.length then s.had.set m.message.stream.toNat (W (s.had[m.message.stream.toNat]?.getD 0+bytes)) else s.had⟩
def new (n:Int):zhr:=⟨W (n-1),-1,List.replicate (max n 0).toNat 0⟩
end Sch
namespace Ser
abbrev zas (l:List Span):HV:=.p (.sl 2 (l.map Span.row))
def tag (n:Int):Int:=n % 65536
def zdd (a t:Int):Int:=W (a+(if tag (W (t-a))>32768 then tag (W (t-a))-65536 else tag (W (t-a))))
theorem yxm (n:Int):0<=tag n/\tag n<65536:=by unfold tag;omega
theorem xcj (z:Int):tag (W z)=tag z:=by
 unfold tag W IntKind.wrap;simp [IntKind.bits,IntKind.signed];omega
theorem ziv {a t:Int} (h1:-(2 ^ 61)<=a) (h2:a<=2 ^ 61):a-32767<=zdd a t/\zdd a t<=a+32768/\tag (zdd a t)=tag t:=by
 have h3:=yxm (W (t-a));have h4:=xcj (t-a);unfold zdd;split
 . rw [zbu (by omega) (by omega)];refine ⟨by omega,by omega,?_⟩;rw [h4];unfold tag;omega
 . rw [zbu (by omega) (by omega)];refine ⟨by omega,by omega,?_⟩;rw [h4];unfold tag;omega
theorem ynl {a t:Int} {d:Nat} (h1:-(2 ^ 41)<=a) (h2:a<=2 ^ 41) (hd:d<=32768) (h:tag (a+d)=tag t):zdd a t=a+d:=by
 have h4:=xcj (t-a);have h5:tag (t-a)=d:=by unfold tag at h ⊢;omega
 unfold zdd;rw [h4,h5,zy0 (by omega),zbu (by omega) (by omega)]
theorem yuq {a t:Int} {d:Nat} (h1:-(2 ^ 41)<=a) (h2:a<=2 ^ 41) (hd:d<32768) (h0:tag (a+d)≠tag t) (h:tag (a-d)=tag t):zdd a t=a-d:=by
 have h4:=xcj (t-a);have h5:tag (t-a)=65536-d:=by unfold tag at h h0 ⊢;omega
 unfold zdd;rw [h4,h5,zy1 (by omega),zbu (by omega) (by omega)];omega
theorem yzl {a t:Int} (h:∀ j:Nat,j<32768->tag (a+j)≠tag t/\tag (a-j)≠tag t):tag (a+(32768:Nat))=tag t:=by
 have h5:=yxm (t-a);by_cases c:tag (t-a)<32768
 . exact absurd (by unfold tag at c h5 ⊢;omega) (h (tag (t-a)).toNat zz0).1
 . by_cases c2:tag (t-a)=32768
   . unfold tag at c2 ⊢;omega
   . exact absurd (by unfold tag at c c2 h5 ⊢;omega) (h (65536-tag (t-a)).toNat zz0).2
def has (l:List Span) (n:Int):Bool:=l.any fun s=>decide (s.lo<=n)&&decide (n<=s.hi)
theorem zdk (n:Int):zan Tryz.prog 121 [i64 n] zad (i64 (tag n)) zad:=by
 refine zal mixed Tryz.func121 zz4 ?_;(conv=>whnf);show i64 (bits .and .i64 n 65535)=_;rw [xcm];rfl
theorem xaw (n:Int):(n.tmod 65536+65536).tmod 65536=tag n:=by
 have h1:=Int.tmod_lt_of_pos n (show (0:Int)<65536 by decide);have h2:-65536<n.tmod 65536:=by
  have:=Int.lt_tmod_of_pos n (show (0:Int)<65536 by decide);omega
 have h3:=Int.mul_tdiv_add_tmod n 65536;rw [zy82 (by omega)];unfold tag;generalize n.tmod 65536=x at *
 generalize n.tdiv 65536=y at *
 omega
theorem zcu (n:Int):zan Tryz.prog 100 [i64 n] zad (i64 (tag n)) zad:=by
 refine zal mixed Tryz.func100 zz4 ?_;have h1:=Int.tmod_lt_of_pos n (show (0:Int)<65536 by decide);have h2:-65536<n.tmod 65536:=by
  have:=Int.lt_tmod_of_pos n (show (0:Int)<65536 by decide);omega
 (conv=>whnf);refine zaa zz4 (zw ?_);refine sFm ?_;refine zaa zz4 (zw ?_);show i64 ((n.tmod 65536+65536).tmod 65536)=_;rw [xaw]
theorem zkk (a t:Int):zan Tryz.prog 76 [i64 a,i64 t] zad (i64 (zdd a t)) zad:=by
 refine zal mixed Tryz.func76 zz4 ?_;have h3:=yxm (W (t-a));(conv=>whnf);refine sR ?_
 (refine cL ?_;refine dL (zdk _) ?_)
 (try refine sG ?_)
 refine zaf (fun c=>?_) (fun c=>?_)
 . have c:tag (W (t-a))>32768:=by simpa using c
   (conv=>whnf);refine zaq (z:=tag (W (t-a))-65536) (zbu zz0 zz0) (zw ?_);refine sR ?_;rw [zdd,zy1 c]
 . have c:¬ tag (W (t-a))>32768:=by simpa using c
   (conv=>whnf);refine sR ?_;rw [zdd,zy0 c]
structure RN (a t:Int) (d:Int):Prop where
 lo:0<=d
 le:d<=32768
 no:∀ j:Nat,j<d->tag (a+j)≠tag t/\tag (a-j)≠tag t
theorem zkm (a t:Int) (h1:-(2 ^ 40)<=a) (h2:a<=2 ^ 40):zan Tryz.prog 83 [i64 a,i64 t] zad (i64 (zdd a t)) zad:=by
 refine zal mixed Tryz.func83 zz4 ?_;(conv=>whnf);refine ⟨{d:Int // RN a t d},fun | ⟨d,_⟩=>hs 41 [(0,i64 a),(1,i64 t),(5,i64 d)] [],fun x=>(32768-x.1).toNat,⟨0,by omega,by omega,fun j hj=>absurd hj zz0⟩,?_,?_⟩
 . exact (zbi [])
 rintro ⟨d,hdn⟩;have hd0:=hdn.lo;have hd:=hdn.le;have hno:=hdn.no;(conv=>whnf);refine zaf (fun c1=>?_) (fun c1=>?_)
 . have c1:d<32768:=zy24 c1
   obtain ⟨n,hn⟩:∃ n:Nat,d=n:=⟨d.toNat,by omega⟩
   (conv=>whnf);refine sFm ?_
   (refine cL ?_;refine dL (zcu _) ?_)
   (refine cL ?_;refine dL (zcu _) ?_)
   refine zaf (fun c2=>?_) (fun c2=>?_)
   . have c2:tag (a+d)≠tag t:=by simpa using c2
     (conv=>whnf);refine sFm ?_
     (refine cL ?_;refine dL (zcu _) ?_)
     (refine cL ?_;refine dL (zcu _) ?_)
     refine zaf (fun c3=>?_) (fun c3=>?_)
     . have c3:tag (a-d)≠tag t:=by simpa using c3
       (conv=>whnf);refine sFm ?_;refine ⟨⟨d+1,by omega,by omega,fun j hj=>?_⟩,(zbi []),by dsimp only;omega⟩;by_cases hjd:(j:Int)=d
       . rw [hjd];exact ⟨c2,c3⟩
       . exact hno j zz0
     . have c3:tag (a-d)=tag t:=by simpa using c3
       (conv=>whnf);refine sFm ?_
       (refine cL ?_;refine dL (zcu _) ?_)
       (refine cL ?_;refine dL (zcu _) ?_)
       refine zab zz29 ?_;(conv=>whnf);refine sFm ?_;rw [hn] at c1 c2 c3 ⊢;rw [yuq (by omega) (by omega) (by omega) c2 c3]
   . have c2:tag (a+d)=tag t:=by simpa using c2
     (conv=>whnf);refine sFm ?_
     (refine cL ?_;refine dL (zcu _) ?_)
     (refine cL ?_;refine dL (zcu _) ?_)
     refine zac zz29 ?_;(conv=>whnf);refine sFm ?_;rw [hn] at c2 ⊢;rw [ynl (by omega) (by omega) (by omega) c2]
 . have c1:d=32768:=by have:=zy32 c1;omega
   subst c1;have c2:tag (a+32768)=tag t:=yzl fun j hj=>hno j zz0
   (conv=>whnf);refine sFm ?_
   (refine cL ?_;refine dL (zcu _) ?_)
   (refine cL ?_;refine dL (zcu _) ?_)
   refine zac zz29 ?_;(conv=>whnf);refine sFm ?_;rw [ynl (d:=32768) (by omega) (by omega) (zy23 _) c2];rfl
theorem yyv {g:FuncId} {cs:List PV} {p:Span->Bool} (hg:∀ m:Span,zan Tryz.prog g [m.hv,.rp cs] zad (zbj (p m)) zad) (q:List Span) (hb:q.length<2 ^ 62) :
 zan Tryz.prog 185 [.p (.sl 2 (q.map Span.row)),.clo g [.rp cs]] zad (i64 (zch p 0 q)) zad:=by
 refine zal mixed Tryz.func185 zz4 ?_;(conv=>whnf);refine ⟨{k:Nat // k<=q.length/\zch p k (q.drop k)=zch p 0 q},fun | ⟨k,_⟩=>hs 19 [(0,.p (.sl 2 (q.map Span.row))),(1,.clo g [.rp cs]),(7,i64 (q.map Span.row).length),(8,i64 k)] [],fun k=>q.length-k.1,⟨0,by simp⟩,?_,?_⟩
 . exact (zbi [])
 . rintro ⟨k,hk,hi⟩
   exact yy5
theorem ywo (s:Span) (n:Int):zan Tryz.prog 156 [s.hv,.rp [pi n]] zad (zbj (decide (s.lo<=n)&&decide (n<=s.hi))) zad:=by
 refine zal mixed Tryz.func156 zz4 ?_;(conv=>whnf);refine zaf (fun c=>?_) (fun c=>?_)<;>conv=>whnf
 . show zbj (decide (n<=s.hi))=_;rw [show decide (s.lo<=n)=true from c,zy96]
 . rw [show decide (s.lo<=n)=false from c,Bool.false_and]
theorem ybg {α:Type} {p:α->Bool}:∀ (l:List α) (k:Nat),decide (zch p k l>=0)=l.any p
 | [],k=>rfl
 | x::r,k=>by
  simp only [zch,List.any_cons];split
  . rename_i h;rw [h];simp
  . rename_i h;rw [ybg r];simp [h]
theorem ycj {g:FuncId} {cs:List PV} {p:Span->Bool} (hg:∀ m:Span,zan Tryz.prog g [m.hv,.rp cs] zad (zbj (p m)) zad) (q:List Span) (hb:q.length<2 ^ 62) :
 zan Tryz.prog 155 [zas q,.clo g [.rp cs]] zad (zbj (q.any p)) zad:=by
 refine zal mixed Tryz.func155 zz4 ?_;(conv=>whnf)
 (refine cZ ?_;refine dL (yyv hg q hb) ?_)
 show zbj (decide (zch p 0 q>=0))=_;rw [ybg]
theorem yoj (l:List Span) (n:Int) (hb:l.length<2 ^ 62):zan Tryz.prog 120 [zas l,i64 n] zad (zbj (has l n)) zad:=by
 refine zal mixed Tryz.func120 zz4 ?_;(conv=>whnf)
 (refine cL ?_;refine dL (ycj (fun m=>ywo m n) l hb) ?_)
 rfl
theorem ykr (l:List Span) (n:Int) (hb:l.length<2 ^ 62):zan Tryz.prog 128 [zas l,i64 n] zad (zbj (has l n)) zad:=by
 refine zal mixed Tryz.func128 zz4 ?_;(conv=>whnf);refine ⟨{k:Nat // k<=l.length/\has (l.drop k) n=has l n},fun | ⟨k,_⟩=>hs 24 [(1,i64 n),(7,zas l),(8,i64 l.length),(9,i64 k)] [],fun x=>l.length-x.1,⟨0,by simp⟩,?_,?_⟩
 . exact (zbi [])
 rintro ⟨k,hk,hi⟩;(conv=>whnf);refine zaf (fun c=>?_) (fun c=>?_)
 . have hlt:k<l.length:=by simpa using c
   rw [zy18 hlt,has,List.any_cons] at hi;(conv=>whnf);refine zbz k rfl hlt (zw ?_);generalize l[k]=s at hi ⊢;refine zaf (fun c1=>?_) (fun c1=>?_)
   . have c1:s.lo<=n:=zy24 c1
     (conv=>whnf);refine zaf (fun c2=>?_) (fun c2=>?_)
     . have c2:n<=s.hi:=zy24 c2
       (conv=>whnf);rw [<- hi,zy10 c1,zy10 c2];rfl
     . have c2:¬ n<=s.hi:=zy32 c2
       (conv=>whnf);refine sFm ?_;exact ⟨⟨k+1,hlt,by rw [<- hi,zy11 c2];simp [has]⟩,(zbi []),by dsimp only;omega⟩
   . have c1:¬ s.lo<=n:=zy32 c1
     (conv=>whnf);refine sFm ?_;exact ⟨⟨k+1,hlt,by rw [<- hi,zy11 c1];simp [has]⟩,(zbi []),by dsimp only;omega⟩
 . have hge:l.length<=k:=by simpa using c
   rw [zy19 hge] at hi;(conv=>whnf);rw [<- hi];rfl
end Ser
namespace Sco
open Ser
abbrev zdy (l:List zbo):HV:=.p (.sl 20 (l.map zbo.row))
abbrev zbr (l:List zdw):HV:=.p (.sl 3 (l.map zdw.row))
abbrev ziy (l:List zbo):zai:=.live (.row 134 20 (l.map zbo.row))
abbrev yhc (l:List zdw):zai:=.live (.row 180 3 (l.map zdw.row))
abbrev ybh (l:List Int):zai:=.live (.row 3 1 (l.map fun n=>[pi n]))
def total (l:List zbo):Nat:=(l.map fun s=>s.chunk.data.length).sum
theorem zhq (a b:List zbo):total (a++b)=total a+total b:=by simp [total]
theorem zgi (s:zbo) (b:List zbo):total (s::b)=s.chunk.data.length+total b:=by simp [total]
structure zeu (l:List zbo):Prop where
 len:l.length<2 ^ 38
 bytes:total l<2 ^ 38
theorem zdb (l:List UInt8) (hb:l.length<2 ^ 40):zan Tryz.prog 70 [.p (.sl 1 (l.map zcp))] zad (.own 0) (lk .free [(0,.live (.row 5 1 (l.map zcp)))]):=by
 refine zap mixed Tryz.func70 zz4 [] (fun _=>.inl rfl) ?_;(conv=>whnf);intro b hn;(conv=>whnf);refine zaf (fun c=>?_) (fun c=>?_)
 . conv=>whnf
   exact yy24
 . conv=>whnf
   refine zaa (c:=(([]:List (List PV)).length+(l.map zcp).length)*1<=140737488355328) zz3 ?_;exact yy19
theorem yiu (l:List zdw) (hb:l.length<2 ^ 40):zan Tryz.prog 157 [.p (.sl 3 (l.map zdw.row))] zad (.own 0) (lk .free [(0,.live (.row 180 3 (l.map zdw.row)))]):=by
 refine zap mixed Tryz.func157 zz4 [] (fun _=>.inl rfl) ?_;(conv=>whnf);intro b hn;(conv=>whnf);refine zaf (fun c=>?_) (fun c=>?_)
 . conv=>whnf
   exact yy24
 . conv=>whnf
   refine zaa (c:=(([]:List (List PV)).length+(l.map zdw.row).length)*24<=140737488355328) zz3 ?_;exact yy19
theorem zdt (l:List zbo) (hl:zeu l):zan Tryz.prog 72 [zdy l] zad (.own 0) (lk .free [(0,ziy l)]):=by
 obtain ⟨hl1,hl2⟩:=hl;refine zap mixed Tryz.func72 zz4 [] (fun _=>.inl rfl) ?_;(conv=>whnf);refine ⟨{x:List zbo×List zbo // l=x.1++x.2},fun | ⟨(a,b),_⟩=>hs 24 [(3,.own 900),(6,zdy l),(7,i64 l.length),(8,i64 a.length)] [(900,ziy a)],fun x=>x.1.2.length,⟨([],l),rfl⟩,?_,?_⟩
 . exact (zbi [(900,none)])
 rintro ⟨⟨a,b⟩,h⟩;dsimp only at h;cases b with
 | nil =>
  have hz:=zbn h;(conv=>whnf);refine sN ?_;refine zao [(0,some 900)] rfl rfl trivial rfl rfl ⟨⟨rfl,.inl ⟨900,rfl,?_⟩⟩,trivial⟩;show ziy a=ziy l;rw [h,zy4]
 | cons s b =>
  have hz:=zbe h;rw [h,zhq,zgi] at hl2;(conv=>whnf);refine sT ?_;refine zaj h rfl (zw ?_)
  (refine zat [(0,15)]  ?_;(conv=>whnf);refine dO (zdb s.chunk.data zz0) ?_)
  refine zaa (c:=((a.map zbo.row).length+1)*200<=140737488355328) om ?_;(conv=>whnf);refine sF ?_;exact ⟨⟨(a++[s],b),zag h⟩,(zaz [(900,some 21)] (by repeat' (first | exact z0 | refine z1 ?_ | refine ⟨?_,?_⟩ | (exact zej rfl) | exact z2))),by simp⟩
def fl (path:Int) (l:List zbo):Nat:=(l.map fun s=>if s.state=1/\s.path=path then s.chunk.data.length else 0).sum
theorem ymh (p:Int) (a b:List zbo):fl p (a++b)=fl p a+fl p b:=by simp [fl]
theorem zuy (p:Int) (s:zbo):fl p [s]=if s.state=1/\s.path=p then s.chunk.data.length else 0:=by simp [fl]
theorem yyj (p:Int):∀ l:List zbo,fl p l<=total l
 | []=>by simp [fl,total]
 | s::r=>by
  have:=yyj p r;simp only [fl,total,zy35,zy137] at this ⊢;split<;>omega
theorem zop (l:List zbo) (path:Int) (hl:zeu l):zan Tryz.prog 122 [zdy l,i64 path] zad (i64 (fl path l)) zad:=by
 obtain ⟨hl1,hl2⟩:=hl;refine zal mixed Tryz.func122 zz4 ?_;(conv=>whnf);refine ⟨{x:List zbo×List zbo // l=x.1++x.2},fun | ⟨(a,b),_⟩=>hs 31 [(1,i64 path),(5,i64 (fl path a)),(8,zdy l),(9,i64 l.length),(10,i64 a.length)] [],fun x=>x.1.2.length,⟨([],l),rfl⟩,?_,?_⟩
 . exact (zbi [])
 rintro ⟨⟨a,b⟩,h⟩;dsimp only at h;cases b with
 | nil =>
  have hz:=zbn h;(conv=>whnf);refine sN ?_;rw [h,zy4]
 | cons s b =>
  have hz:=zbe h;have hf:=yyj path a;rw [h,zhq,zgi] at hl2;have e1:=ymh path a [s];rw [zuy] at e1;(conv=>whnf);refine sT ?_
  (try refine sG ?_)
  refine zaj h rfl (zw ?_);refine zaf (fun c1=>?_) (fun c1=>?_)
  . conv=>whnf
    refine zaf (fun c2=>?_) (fun c2=>?_)
    . conv=>whnf
      rw [zy1 ⟨by simpa using c1,by simpa using c2⟩] at e1;refine sF ?_;refine sF ?_;exact ⟨⟨(a++[s],b),zag h⟩,(zaz [] zz20),by simp⟩
    . conv=>whnf
      rw [zy0 (by rintro ⟨h1,h2⟩;simp [h2] at c2)] at e1;refine sF ?_;exact ⟨⟨(a++[s],b),zag h⟩,(zaz [] zz20),by simp⟩
  . conv=>whnf
    rw [zy0 (by rintro ⟨h1,h2⟩;simp [h1] at c1)] at e1;refine sF ?_;exact ⟨⟨(a++[s],b),zag h⟩,(zaz [] zz20),by simp⟩
def zgk (id:Int) (s:zbo):zbo:=if s.id=id/\s.state≠2 then {s with state:=4} else s
def late (path:Int) (s:zbo):zbo:=if s.state=1/\s.path=path then {s with state:=3} else s
theorem zqe (l:List zbo) (id:Int) (hl:zeu l):zan Tryz.prog 162 [zdy l,i64 id] zad (.own 0) (lk .free [(0,ziy (l.map (zgk id)))]):=by
 have hl1:=hl.len;refine zap mixed Tryz.func162 zz4 [] (fun _=>.inl rfl) ?_;(conv=>whnf)
 (refine zat [(0,8)]  ?_;(conv=>whnf);refine dO (zdt l hl) ?_)
 refine ⟨{x:List zbo×List zbo // l=x.1++x.2},fun | ⟨(a,b),_⟩=>hs 35 [(1,i64 id),(5,.own 900),(10,i64 l.length),(11,i64 a.length)] [(900,ziy (a.map (zgk id)++b))],fun x=>x.1.2.length,⟨([],l),rfl⟩,?_,?_⟩
 . exact (zbi [(900,some 8)])
 rintro ⟨⟨a,b⟩,h⟩;dsimp only at h;cases b with
 | nil =>
  have hz:=zbn h;(conv=>whnf);refine sN ?_;refine zao [(0,some 900)] rfl rfl trivial rfl rfl ⟨⟨rfl,.inl ⟨900,rfl,?_⟩⟩,trivial⟩;show ziy (a.map (zgk id)++[])=ziy (l.map (zgk id));rw [h,zy4,zy4]
 | cons s b =>
  have hz:=zbe h;have hm:a.length=(a.map (zgk id)).length:=by simp
  have e0:(a++[s]).map (zgk id)++b=a.map (zgk id)++zgk id s::b:=by simp
  (conv=>whnf);refine sT ?_
  (try refine sG ?_)
  refine sO ?_;refine zaj (a:=a.map (zgk id)) (b:=b) (s:=s) rfl zz5 (zw ?_);refine zaf (fun c1=>?_) (fun c1=>?_)
  . conv=>whnf
    refine sO ?_;refine zaj (a:=a.map (zgk id)) (b:=b) (s:=s) rfl zz5 (zw ?_);refine zaf (fun c2=>?_) (fun c2=>?_)
    . have e1:zgk id s={s with state:=4}:=zy1 ⟨by simpa using c1,by simpa using c2⟩
      (conv=>whnf);refine sO ?_;refine zaj (a:=a.map (zgk id)) (b:=b) (s:=s) rfl zz5 (zw ?_);refine sF ?_;exact ⟨⟨(a++[s],b),zag h⟩,(zaz [(900,some 900)] zz26),by simp⟩
    . have e1:zgk id s=s:=zy0 (by rintro ⟨_,h2⟩;exact h2 (by simpa using c2))
      exact yy65
  . have e1:zgk id s=s:=zy0 (by rintro ⟨h2,_⟩;simp [h2] at c1)
    exact yy65
theorem zwj (l:List zbo) (path:Int) (hl:zeu l):zan Tryz.prog 90 [zdy l,i64 path] zad (.own 0) (lk .free [(0,ziy (l.map (late path)))]):=by
 have hl1:=hl.len;refine zap mixed Tryz.func90 zz4 [] (fun _=>.inl rfl) ?_;(conv=>whnf)
 (refine zat [(0,8)]  ?_;(conv=>whnf);refine dO (zdt l hl) ?_)
 refine ⟨{x:List zbo×List zbo // l=x.1++x.2},fun | ⟨(a,b),_⟩=>hs 35 [(1,i64 path),(5,.own 900),(10,i64 l.length),(11,i64 a.length)] [(900,ziy (a.map (late path)++b))],fun x=>x.1.2.length,⟨([],l),rfl⟩,?_,?_⟩
 . exact (zbi [(900,some 8)])
 rintro ⟨⟨a,b⟩,h⟩;dsimp only at h;cases b with
 | nil =>
  have hz:=zbn h;(conv=>whnf);refine sN ?_;refine zao [(0,some 900)] rfl rfl trivial rfl rfl ⟨⟨rfl,.inl ⟨900,rfl,?_⟩⟩,trivial⟩;show ziy (a.map (late path)++[])=ziy (l.map (late path));rw [h,zy4,zy4]
 | cons s b =>
  have hz:=zbe h;have hm:a.length=(a.map (late path)).length:=by simp
  have e0:(a++[s]).map (late path)++b=a.map (late path)++late path s::b:=by simp
  (conv=>whnf);refine sT ?_
  (try refine sG ?_)
  refine sO ?_;refine zaj (a:=a.map (late path)) (b:=b) (s:=s) rfl zz5 (zw ?_);refine zaf (fun c1=>?_) (fun c1=>?_)
  . conv=>whnf
    refine sO ?_;refine zaj (a:=a.map (late path)) (b:=b) (s:=s) rfl zz5 (zw ?_);refine zaf (fun c2=>?_) (fun c2=>?_)
    . have e1:late path s={s with state:=3}:=zy1 ⟨by simpa using c1,by simpa using c2⟩
      (conv=>whnf);refine sO ?_;refine zaj (a:=a.map (late path)) (b:=b) (s:=s) rfl zz5 (zw ?_);refine sF ?_;exact ⟨⟨(a++[s],b),zag h⟩,(zaz [(900,some 900)] zz26),by simp⟩
    . have e1:late path s=s:=zy0 (by rintro ⟨_,h2⟩;simp [h2] at c2)
      exact yy65
  . have e1:late path s=s:=zy0 (by rintro ⟨h2,_⟩;simp [h2] at c1)
    exact yy65
def zdg (c:Chunk) (s:zdw):Bool:=s.stream==c.stream&&s.ordered==c.ordered&&(c.ordered||s.mid==c.mid)
def skip (c:Chunk):List zdw->List zdw
 | []=>[⟨c.stream,c.mid,c.ordered⟩]
 | s::r=>if zdg c s then ⟨s.stream,c.mid,s.ordered⟩::r else s::skip c r
theorem zmm {c:Chunk}:∀ {a:List zdw},(∀ s∈a,zdg c s=false)->∀ b,skip c (a++b)=a++skip c b
 | [],_,b=>rfl
 | s::r,h,b=>by
  rw [zy40,skip,zy0 (by rw [h s (by simp)];decide),zmm fun x hx=>h x zz103];rfl
theorem zwo (l:List zdw) (c:Chunk) (hl:l.length<2 ^ 38):zan Tryz.prog 123 [zbr l,c.hv] zad (.own 0) (lk .free [(0,yhc (skip c l))]):=by
 refine zap mixed Tryz.func123 zz4 [] (fun _=>.inl rfl) ?_;(conv=>whnf)
 (refine zat [(0,9)]  ?_;(conv=>whnf);refine dO (yiu l zz0) ?_)
 refine ⟨{x:List zdw×List zdw // l=x.1++x.2/\∀ s∈x.1,zdg c s=false},fun | ⟨(a,b),_⟩=>hs 58 [(3,.ptr 3 0),(5,.own 900),(10,.own 900),(11,i64 l.length),(12,i64 a.length)] [(3,.live (.cells 61 c.cells)),(900,yhc l)],fun x=>x.1.2.length,⟨([],l),rfl,by simp⟩,?_,?_⟩
 . exact (zbi [(3,some 3),(900,some 9)])
 rintro ⟨⟨a,b⟩,h,hno⟩;dsimp only at h hno;cases b with
 | nil =>
  have hz:=zbn h;(conv=>whnf);refine sN ?_;refine zaa (c:=((l.map zdw.row).length+1)*24<=140737488355328) om (zw ?_);refine zao [(0,some 57)] rfl rfl trivial rfl rfl ⟨⟨rfl,.inl ⟨57,rfl,?_⟩⟩,trivial⟩;have e1:=zmm hno [];rw [<- h] at e1;exact (zej (f:=zdw.row) (a:=l) (x:=⟨c.stream,c.mid,c.ordered⟩) (by rw [e1,h,zy4];rfl)).symm
 | cons s b =>
  have hz:=zbe h;have yes:zdg c s=true->skip c l=a++⟨s.stream,c.mid,s.ordered⟩::b:=by
   intro hm;rw [h,zmm hno,skip,zy1 hm]
  have nxt:zdg c s=false->∀ x∈a++[s],zdg c x=false:=by
   intro hm x hx;rcases zy20.1 hx with hx | hx
   . exact hno x hx
   . rw [zy25.1 hx];exact hm
  (conv=>whnf);refine sT ?_;refine sO ?_;refine zaj h rfl (zw ?_);have hy:zdg c s=true->zai.live (zjb.row 180 3 (((l.map zdw.row).set a.length [pi s.stream,pi c.mid,pb s.ordered])))=yhc (skip c l):=by
   intro hm;rw [yes hm,h];exact (zeg (f:=zdw.row) (a:=a) (b:=b) (x:=s) (y:=⟨s.stream,c.mid,s.ordered⟩) rfl rfl).symm
  simp only [zdg] at hy nxt;refine zaf (fun c1=>?_) (fun c1=>?_)
  . conv=>whnf
    refine zaf (fun c2=>?_) (fun c2=>?_)
    . conv=>whnf
      refine zaf (fun c3=>?_) (fun c3=>?_)
      . conv=>whnf
        refine sO ?_;refine zaj h rfl (zw ?_);refine zao [(0,some 900)] rfl rfl trivial rfl rfl ⟨⟨rfl,.inl ⟨900,rfl,?_⟩⟩,trivial⟩;exact hy (by rw [c1,c2,c3];rfl)
      . conv=>whnf
        refine zaf (fun c4=>?_) (fun c4=>?_)
        . conv=>whnf
          refine sO ?_;refine zaj h rfl (zw ?_);refine zao [(0,some 900)] rfl rfl trivial rfl rfl ⟨⟨rfl,.inl ⟨900,rfl,?_⟩⟩,trivial⟩;exact hy (by rw [c1,c2,c3,c4];rfl)
        . conv=>whnf
          refine sF ?_;exact ⟨⟨(a++[s],b),zag h,nxt (by simp only [c3,c4];simp)⟩,(zbi [(3,some 3),(900,some 900)]),by simp⟩
    . conv=>whnf
      refine sF ?_;exact ⟨⟨(a++[s],b),zag h,nxt (by simp only [c2];simp)⟩,(zbi [(3,some 3),(900,some 900)]),by simp⟩
  . conv=>whnf
    refine sF ?_;exact ⟨⟨(a++[s],b),zag h,nxt (by simp only [c1];simp)⟩,(zbi [(3,some 3),(900,some 900)]),by simp⟩
theorem ycd (c:Chunk):∀ l:List zdw,(skip c l).length<=l.length+1
 | []=>by simp [skip]
 | s::r=>by
  have:=ycd c r;simp only [skip];split<;>simp<;>omega
def zet (cum:Int) (sk:List zdw):List zbo->Int×List zdw
 | []=>(cum,sk)
 | s::r=>if s.number≠W (cum+1)\/(s.state≠4/\s.state≠2) then (cum,sk) else
  if s.state=4 then (if (skip s.chunk sk).length>8 then (cum,sk) else zet s.number (skip s.chunk sk) r) else zet s.number sk r
def zdx (l:List zbo) (cum:Int):Int×List zdw:=zet cum [] l
end Sco
namespace Sco
open Ser
def here (c:Chunk) (n:Int) (s:zbo):Bool:=decide (s.number<=n)||has c.zas (W (s.number-n))
def comes (c:Chunk) (n:Int) (s:zbo):Bool:=here c n s&&(s.state==1||s.state==3)
def zbp (c:Chunk) (n:Int) (s:zbo):zbo:=if comes c n s then {s with state:=2} else s
def left (c:Chunk) (n:Int) (l:List zbo):List zbo:=(l.filter fun s=>decide (s.number>n)).map (zbp c n)
def zzy (zhf:List Int) (p x:Int):List Int:=zhf.set p.toNat (W (zhf[p.toNat]?.getD 0+x))
def zob (c:Chunk) (n:Int) (zhf:List Int) (s:zbo):List Int:=if comes c n s then zzy zhf s.path s.chunk.data.length else zhf
def zut (c:Chunk) (n:Int) (paths:Nat) (l:List zbo):List Int:=l.foldl (zob c n) (List.replicate paths 0)
def zof (c:Chunk) (n:Int) (h:Int) (s:zbo):Int:=if comes c n s then s.number else h
def zss (c:Chunk) (n:Int) (l:List zbo):Int:=l.foldl (zof c n) 0
def age (h:Int) (s:zbo):zbo:=if s.state=1/\s.number<h then (if W (s.missed+1)>=3 then {s with missed:=W (s.missed+1),state:=3} else {s with missed:=W (s.missed+1)}) else s
def lost (h:Int) (l:List zbo):List Int:=(l.filter fun s=>decide (s.state=1/\s.number<h/\W (s.missed+1)>=3)).map zbo.number
def zix (l:List zbo) (cum:Int) (c:Chunk) (paths:Int):List zbo×Int×List Int×List Int :=
 if zdd cum c.tag<cum\/zdd cum c.tag>cum+l.length then (l,cum,List.replicate paths.toNat 0,[]) else
  ((left c (zdd cum c.tag) l).map (age (zss c (zdd cum c.tag) l)),zdd cum c.tag,zut c (zdd cum c.tag) paths.toNat l,lost (zss c (zdd cum c.tag) l) (left c (zdd cum c.tag) l))
structure yik (l:List zbo) (cum paths:Int):Prop where
 path:∀ s∈l,0<=s.path/\s.path<paths
 p0:1<=paths
 p1:paths<=2
 c0:-1<=cum
 c1:cum<2 ^ 39
 zjt:∀ (i:Nat) s,l[i]?=some s->s.number=cum+1+i
theorem yik.at {l:List zbo} {cum paths:Int} (h:yik l cum paths) {a b:List zbo} {s:zbo} (e:l=a++s::b):s.number=cum+1+a.length/\0<=s.path/\s.path<paths :=
 ⟨h.zjt a.length s (by rw [e];simp),h.path s (zgf e)⟩
theorem yrx (zhf:List Int) (p x:Int):(zzy zhf p x).length=zhf.length:=by simp [zzy]
theorem zmx (c:Chunk) (n:Int) (paths:Nat) (l:List zbo):(zut c n paths l).length=paths:=by
 have gen:∀ (l:List zbo) (z:List Int),(l.foldl (zob c n) z).length=z.length:=by
  intro l
  induction l with
  | nil=>intro z;rfl
  | cons s r ih=>intro z;rw [zy52,ih,zob];split;exact yrx _ _ _;rfl
 rw [zut,gen];simp
structure SI (l:List zbo) (c:Chunk) (n:Int) (paths:Nat) (cum:Int) (x:List zbo×List zbo×List zbo×List Int×Int):Prop where
 split:l=x.1++x.2.1
 out:x.2.2.1=left c n x.1
 zhf:x.2.2.2.1=zut c n paths x.1
 high:x.2.2.2.2=zss c n x.1
 h0:0<=x.2.2.2.2
 h1:x.2.2.2.2<=cum+1+x.1.length
theorem yuj (c:Chunk) (n:Int) (a:List zbo) (s:zbo):left c n (a++[s])=left c n a++if s.number>n then [zbp c n s] else []:=by
 simp only [left,zy42,zy33];congr 1;by_cases h:s.number>n<;>simp [h]
theorem yiv (c:Chunk) (n:Int) (p:Nat) (a:List zbo) (s:zbo):zut c n p (a++[s])=zob c n (zut c n p a) s:=by simp [zut]
theorem yjp (c:Chunk) (n:Int) (a:List zbo) (s:zbo):zss c n (a++[s])=zof c n (zss c n a) s:=by simp [zss]
section
variable {l a b out:List zbo} {c:Chunk} {n cum high:Int} {paths:Nat} {zhf:List Int} {s:zbo}
theorem SI.next (h:SI l c n paths cum (a,s::b,out,zhf,high)) (hs:s.number=cum+1+a.length) (hc:-1<=cum) :
 SI l c n paths cum (a++[s],b,out++(if s.number>n then [zbp c n s] else []),zob c n zhf s,zof c n high s):=by
 obtain ⟨h1,h2,h3,h4,h5,h6⟩:=h;dsimp only at h1 h2 h3 h4 h5 h6;refine ⟨zag h1,?_,?_,?_,?_,?_⟩<;>dsimp only
 . rw [yuj,h2]
 . rw [yiv,h3]
 . rw [yjp,h4]
 . rw [zof];split<;>omega
 . rw [zof];simp only [zy8,zy6,zy12];split<;>push_cast<;>omega
end
end Sco
namespace Chk
abbrev ycg (l:List Span):HV:=.p (.sl 2 (l.map Span.row))
abbrev yce (l:List zdw):HV:=.p (.sl 3 (l.map zdw.row))
def small (n:Int):Bool:=decide (0<=n/\n<65536)
def zed (last:Int):List Span->Int
 | []=>0
 | s::r=>if s.lo<=last\/s.hi<s.lo\/¬ (0<=s.hi/\s.hi<65536) then 3 else zed (s.hi+1) r
def zec:List zdw->Int
 | []=>0
 | s::r=>if s.stream<0\/s.stream>=4\/¬ (0<=s.mid/\s.mid<65536) then 3 else zec r
def zdq (c:Chunk):Int :=
 if c.kind<1\/c.kind>3 then 1 else
 if ¬ (0<=c.tag/\c.tag<65536) then 3 else
 if c.kind=1 then
  if c.stream<0\/c.stream>=4\/¬ (0<=c.mid/\c.mid<65536)\/c.part<0\/c.part>255 then 3 else
  if c.data.length<1\/c.data.length>16 then 4 else 0
 else if c.kind=2 then
  if ¬ (0<=c.room/\c.room<65536) then 3 else
  if c.zas.length>6 then 5 else zed 1 c.zas
 else if c.zbr.length>8 then 5 else zec c.zbr
theorem zsb (n:Int):zan Tryz.prog 202 [i64 n] zad (zbj (small n)) zad:=by
 refine zal mixed Tryz.func202 zz4 ?_;(conv=>whnf);refine zaf (fun h=>?_) (fun h=>?_)<;>conv=>whnf
 . have h:=zy24 h
   rw [show decide (n<65536)=small n from by simp only [small];congr 1;simp;omega]
 . have h:=zy32 h
   rw [show small n=false from zy11 (by omega)]
theorem zrx (n:Int):zan Tryz.prog 190 [i64 n] zad (zbj (small n)) zad:=by
 refine zal mixed Tryz.func190 zz4 ?_;(conv=>whnf);refine zaf (fun h=>?_) (fun h=>?_)<;>conv=>whnf
 . have h:=zy24 h
   rw [show decide (n<=65535)=small n from by simp only [small];congr 1;simp;omega]
 . have h:=zy32 h
   rw [show small n=false from zy11 (by omega)]
theorem zzq (c:Chunk) (h9:c.zas.length<2 ^ 40) (h8:c.zbr.length<2 ^ 40):zan Tryz.prog 187 [c.hv] zad (i64 (zdq c)) zad:=by
 refine zal mixed Tryz.func187 zz4 ?_;(conv=>whnf)
 (repeat' (first | (refine zce ?_;conv=>whnf) | (refine zaa ?_ ?_;(first | kernel_rfl | decide);conv=>whnf) | (refine zaw ?_ ?_;kernel_rfl;conv=>whnf) | (refine zhs.go ?_;conv=>whnf) | (refine zbg ?_;(conv=>whnf);refine ⟨_,zsb _,rfl,?_⟩;conv=>whnf) | (refine zaf (fun h=>?_) (fun h=>?_)<;>conv=>whnf)))
 all_goals try simp only [zy44,zy47,zy15,zy5,zy43,zy28,small,zy2] at *
 all_goals first | (simp only [zdq];(repeat' split)<;>first | rfl | omega) | skip
 . have hw:zdq c=zed 1 c.zas:=by simp only [zdq];(repeat' split)<;>first | rfl | omega
   rw [hw];refine ⟨{x:Nat×Int // x.1<=c.zas.length/\zed x.2 (c.zas.drop x.1)=zed 1 c.zas/\x.2<70000/\0<x.2},fun | ⟨(k,last),_⟩=>hs 128 [(3,.clo 202 []),(4,i64 last),(100,ycg c.zas),(101,i64 c.zas.length),(102,i64 k)] [],fun x=>c.zas.length-x.1.1,⟨(0,1),by simp,rfl,by decide,by decide⟩,?_,?_⟩
   . exact zcl [] rfl rfl rfl rfl ⟨⟨rfl,rfl⟩,⟨rfl,rfl⟩,⟨rfl,rfl⟩,⟨rfl,by simp;rfl⟩,⟨rfl,rfl⟩,trivial⟩ trivial
   . rintro ⟨⟨k,last⟩,hk,hi,hlast,hlast0⟩
     dsimp only at hk hi hlast;(conv=>whnf);refine zaf (fun h=>?_) (fun h=>?_)
     . have hlt:k<c.zas.length:=by simpa using h
       (conv=>whnf);refine zcc (r:=(c.zas[k]).row) zz0 (by rw [zy22,zy17,zy3 hlt];rfl) ?_;rw [zy18 hlt] at hi;simp only [zed] at hi;generalize c.zas[k]=s at hi ⊢;(conv=>whnf)
       (repeat' (first | (refine zce ?_;conv=>whnf) | (refine zaa ?_ ?_;(first | kernel_rfl | decide);conv=>whnf) | (refine zaw ?_ ?_;kernel_rfl;conv=>whnf) | (refine zhs.go ?_;conv=>whnf) | (refine zbg ?_;(conv=>whnf);refine ⟨_,zsb _,rfl,?_⟩;conv=>whnf) | (refine zaf (fun h=>?_) (fun h=>?_)<;>conv=>whnf)))
       all_goals try simp only [zy44,zy47,zy15,zy5,zy43,zy28,small,zy2] at *
       all_goals first | (rw [zy1 (by omega)] at hi;rw [<- hi]) | skip
       rw [zy0 (by omega)] at hi;have e2:W ((k:Int)+1)=((k+1:Nat):Int):=yrw hlt zz0;have e1:W (s.hi+1)=s.hi+1:=zbu zz0 zz0;exact ⟨⟨(k+1,s.hi+1),hlt,hi,by dsimp only;omega,by dsimp only;omega⟩,zcl [] rfl rfl rfl rfl ⟨⟨rfl,rfl⟩,⟨rfl,congrArg i64 e1.symm⟩,⟨rfl,rfl⟩,⟨rfl,rfl⟩,⟨rfl,congrArg i64 e2.symm⟩,trivial⟩ trivial,by dsimp only;omega⟩
     . have hge:c.zas.length<=k:=by simpa using h
       rw [zy19 hge] at hi;(conv=>whnf);rw [<- hi];rfl
 . have hw:zdq c=zec c.zbr:=by simp only [zdq];(repeat' split)<;>first | rfl | omega
   rw [hw];refine ⟨{k:Nat // k<=c.zbr.length/\zec (c.zbr.drop k)=zec c.zbr},fun | ⟨k,_⟩=>hs 128 [(3,.clo 202 []),(29,yce c.zbr),(30,i64 c.zbr.length),(31,i64 k)] [],fun x=>c.zbr.length-x.1,⟨0,by simp,rfl⟩,?_,?_⟩
   . exact zcl [] rfl rfl rfl rfl ⟨⟨rfl,rfl⟩,⟨rfl,rfl⟩,⟨rfl,by simp;rfl⟩,⟨rfl,rfl⟩,trivial⟩ trivial
   . rintro ⟨k,hk,hi⟩
     (conv=>whnf);refine zaf (fun h=>?_) (fun h=>?_)
     . have hlt:k<c.zbr.length:=by simpa using h
       (conv=>whnf);refine zcc (r:=(c.zbr[k]).row) zz0 (by rw [zy22,zy17,zy3 hlt];rfl) ?_;rw [zy18 hlt] at hi;simp only [zec] at hi;generalize c.zbr[k]=s at hi ⊢;(conv=>whnf)
       (repeat' (first | (refine zce ?_;conv=>whnf) | (refine zaa ?_ ?_;(first | kernel_rfl | decide);conv=>whnf) | (refine zaw ?_ ?_;kernel_rfl;conv=>whnf) | (refine zhs.go ?_;conv=>whnf) | (refine zbg ?_;(conv=>whnf);refine ⟨_,zsb _,rfl,?_⟩;conv=>whnf) | (refine zaf (fun h=>?_) (fun h=>?_)<;>conv=>whnf)))
       all_goals try simp only [zy44,zy47,zy15,zy5,zy43,zy28,small,zy2] at *
       all_goals first | (rw [zy1 (by omega)] at hi;rw [<- hi]) | skip
       rw [zy0 (by omega)] at hi;have e2:W ((k:Int)+1)=((k+1:Nat):Int):=yrw hlt zz0;exact ⟨⟨k+1,hlt,hi⟩,zcl [] rfl rfl rfl rfl ⟨⟨rfl,rfl⟩,⟨rfl,rfl⟩,⟨rfl,rfl⟩,⟨rfl,congrArg i64 e2.symm⟩,trivial⟩ trivial,by dsimp only;omega⟩
     . have hge:c.zbr.length<=k:=by simpa using h
       rw [zy19 hge] at hi;(conv=>whnf);rw [<- hi];rfl
theorem zhe (c:Chunk) (h9:c.zas.length<2 ^ 40) (h8:c.zbr.length<2 ^ 40):zan Tryz.prog 169 [c.hv] zad (i64 (zdq c)) zad:=by
 refine zal mixed Tryz.func169 zz4 ?_;(conv=>whnf)
 (repeat' (first | (refine zce ?_;conv=>whnf) | (refine zaa ?_ ?_;(first | kernel_rfl | decide);conv=>whnf) | (refine zaw ?_ ?_;kernel_rfl;conv=>whnf) | (refine zhs.go ?_;conv=>whnf) | (refine zbg ?_;(conv=>whnf);refine ⟨_,zrx _,rfl,?_⟩;conv=>whnf) | (refine zaf (fun h=>?_) (fun h=>?_)<;>conv=>whnf)))
 all_goals try simp only [zy44,zy47,zy15,zy5,zy43,zy28,small,zy2] at *
 all_goals first | (simp only [zdq];(repeat' split)<;>first | rfl | omega) | skip
 . have hw:zdq c=zed 1 c.zas:=by simp only [zdq];(repeat' split)<;>first | rfl | omega
   rw [hw];refine ⟨{x:Nat×Int // x.1<=c.zas.length/\zed x.2 (c.zas.drop x.1)=zed 1 c.zas/\x.2<70000/\0<x.2},fun | ⟨(k,last),_⟩=>hs 121 [(3,i64 (last+1)),(69,ycg c.zas),(70,i64 c.zas.length),(71,i64 k)] [],fun x=>c.zas.length-x.1.1,⟨(0,1),by simp,rfl,by decide,by decide⟩,?_,?_⟩
   . exact zcl [] rfl rfl rfl rfl ⟨⟨rfl,rfl⟩,⟨rfl,rfl⟩,⟨rfl,by simp;rfl⟩,⟨rfl,rfl⟩,trivial⟩ trivial
   . rintro ⟨⟨k,last⟩,hk,hi,hlast,hlast0⟩
     dsimp only at hk hi hlast;(conv=>whnf);refine zaf (fun h=>?_) (fun h=>?_)
     . have hlt:k<c.zas.length:=by simpa using h
       (conv=>whnf);refine zcc (r:=(c.zas[k]).row) zz0 (by rw [zy22,zy17,zy3 hlt];rfl) ?_;rw [zy18 hlt] at hi;simp only [zed] at hi;generalize c.zas[k]=s at hi ⊢;(conv=>whnf)
       (repeat' (first | (refine zce ?_;conv=>whnf) | (refine zaa ?_ ?_;(first | kernel_rfl | decide);conv=>whnf) | (refine zaw ?_ ?_;kernel_rfl;conv=>whnf) | (refine zhs.go ?_;conv=>whnf) | (refine zbg ?_;(conv=>whnf);refine ⟨_,zrx _,rfl,?_⟩;conv=>whnf) | (refine zaf (fun h=>?_) (fun h=>?_)<;>conv=>whnf)))
       all_goals try simp only [zy44,zy47,zy15,zy5,zy43,zy28,small,zy2] at *
       all_goals first | (rw [zy1 (by omega)] at hi;rw [<- hi]) | skip
       rw [zy0 (by omega)] at hi;have e2:W ((k:Int)+1)=((k+1:Nat):Int):=yrw hlt zz0;have e1:W (s.hi+2)=s.hi+2:=zbu zz0 zz0;exact ⟨⟨(k+1,s.hi+1),hlt,hi,by dsimp only;omega,by dsimp only;omega⟩,zcl [] rfl rfl rfl rfl ⟨⟨rfl,congrArg i64 (show W (s.hi+2)=s.hi+1+1 by rw [e1];omega).symm⟩,⟨rfl,rfl⟩,⟨rfl,rfl⟩,⟨rfl,congrArg i64 e2.symm⟩,trivial⟩ trivial,by dsimp only;omega⟩
     . have hge:c.zas.length<=k:=by simpa using h
       rw [zy19 hge] at hi;(conv=>whnf);rw [<- hi];rfl
 . have hw:zdq c=zec c.zbr:=by simp only [zdq];(repeat' split)<;>first | rfl | omega
   rw [hw];refine ⟨{k:Nat // k<=c.zbr.length/\zec (c.zbr.drop k)=zec c.zbr},fun | ⟨k,_⟩=>hs 121 [(100,yce c.zbr),(101,i64 c.zbr.length),(102,i64 k)] [],fun x=>c.zbr.length-x.1,⟨0,by simp,rfl⟩,?_,?_⟩
   . exact zcl [] rfl rfl rfl rfl ⟨⟨rfl,rfl⟩,⟨rfl,by simp;rfl⟩,⟨rfl,rfl⟩,trivial⟩ trivial
   . rintro ⟨k,hk,hi⟩
     (conv=>whnf);refine zaf (fun h=>?_) (fun h=>?_)
     . have hlt:k<c.zbr.length:=by simpa using h
       (conv=>whnf);refine zcc (r:=(c.zbr[k]).row) zz0 (by rw [zy22,zy17,zy3 hlt];rfl) ?_;rw [zy18 hlt] at hi;simp only [zec] at hi;generalize c.zbr[k]=s at hi ⊢;(conv=>whnf)
       (repeat' (first | (refine zce ?_;conv=>whnf) | (refine zaa ?_ ?_;(first | kernel_rfl | decide);conv=>whnf) | (refine zaw ?_ ?_;kernel_rfl;conv=>whnf) | (refine zhs.go ?_;conv=>whnf) | (refine zbg ?_;(conv=>whnf);refine ⟨_,zrx _,rfl,?_⟩;conv=>whnf) | (refine zaf (fun h=>?_) (fun h=>?_)<;>conv=>whnf)))
       all_goals try simp only [zy44,zy47,zy15,zy5,zy43,zy28,small,zy2] at *
       all_goals first | (rw [zy1 (by omega)] at hi;rw [<- hi]) | skip
       rw [zy0 (by omega)] at hi;have e2:W ((k:Int)+1)=((k+1:Nat):Int):=yrw hlt zz0;exact ⟨⟨k+1,hlt,hi⟩,zcl [] rfl rfl rfl rfl ⟨⟨rfl,rfl⟩,⟨rfl,rfl⟩,⟨rfl,congrArg i64 e2.symm⟩,trivial⟩ trivial,by dsimp only;omega⟩
     . have hge:c.zbr.length<=k:=by simpa using h
       rw [zy19 hge] at hi;(conv=>whnf);rw [<- hi];rfl
def zlw (l:List UInt8):zai:=.live (.row 5 1 (l.map zcp))
theorem ywu (n:Int):zan Tryz.prog 188 [zee,i64 n] zad (.own 0) (lk .free [(0,zlw (zbt n))]):=by
 refine zap mixed Tryz.func188 zz4 [] (fun _=>.inl rfl) ?_;(conv=>whnf);refine zaa zz4 (zw ?_);refine zdo (zw ?_);refine zdo (zw ?_);refine zaa (c:=2*1<=140737488355328) zz4 (zw ?_);exact zao [(0,some 12)] rfl rfl trivial rfl rfl ⟨⟨rfl,.inl ⟨12,rfl,rfl⟩⟩,trivial⟩
theorem zqi (l:List UInt8) (n:Int) (hb:l.length<2 ^ 40):zan Tryz.prog 188 [.own 1000,i64 n] (lk .free [(1000,zlw l)]) (.own 0) (lk .free [(1000,.dead),(0,zlw (l++zbt n))]):=by
 refine zap mixed Tryz.func188 zz4 [1000] (fun i=>zbq i) ?_;(conv=>whnf);refine zaa zz4 (zw ?_);refine zdo (zw ?_);refine zdo (zw ?_);refine zaa (c:=((l.map zcp).length+2)*1<=140737488355328) zz3 (zw ?_);refine zao [(1000,some 1000),(0,some 12)] rfl rfl ⟨rfl,trivial⟩ rfl rfl ⟨rfl,⟨rfl,.inl ⟨12,rfl,?_⟩⟩,trivial⟩;show zai.live (.row _ 1 _)=zai.live (.row _ 1 ((l++zbt n).map zcp));rw [zy33]
 rfl
theorem ych (b:Bool) (n:Int):zan Tryz.prog 189 [zbj b,hint .u8 n] zad (hint .u8 (if b then n else 0)) zad:=by
 refine zal mixed Tryz.func189 zz4 ?_;cases b<;>(conv=>whnf)<;>rfl
theorem zko (n:Int) (h:0<=n/\n<65536):zan Tryz.prog 170 [i64 n] zad (.own 0) (lk .free [(0,zlw (zbt n))]):=by
 obtain ⟨h0,h1⟩:=h;refine zap mixed Tryz.func170 zz4 [] (fun _=>.inl rfl) ?_;(conv=>whnf);refine zaa zz4 (zw ?_);have e1:n.tdiv 256=n / 256:=Int.tdiv_eq_ediv_of_nonneg h0;have e2:by8 (n.tmod 256)=by8 n:=by
  rw [zy82 h0];apply UInt8.toNat_inj.1;have h1:=zjy (n % 256);have h2:=zjy n;omega
 refine sFm ?_;refine zdo (zw ?_);refine zaa zz4 (zw ?_);refine zdo (zw ?_);refine zao [(0,some 9)] rfl rfl trivial rfl rfl ⟨⟨rfl,.inl ⟨9,rfl,?_⟩⟩,trivial⟩;show zlw [by8 (n.tdiv 256),by8 (n.tmod 256)]=zlw (zbt n);rw [e1,e2]
 rfl
theorem zrz (b:Bool) (n:Int):zan Tryz.prog 171 [zbj b,i64 n] zad (i64 (if b then n else 0)) zad:=by
 refine zal mixed Tryz.func171 zz4 ?_;cases b<;>(conv=>whnf)<;>rfl
def flags (c:Chunk):Int:=(if c.last then 1 else 0)+(if c.ordered then 2 else 0)
def zcm (l:List Span):List UInt8:=l.flatMap fun s=>zbt s.lo++zbt s.hi
def skipBytes (l:List zdw):List UInt8:=l.flatMap fun s=>[by8 s.stream,by8 (if s.ordered then 1 else 0)]++zbt s.mid
def body (c:Chunk):List UInt8 :=
 if c.kind=1 then zbt c.tag++[by8 c.stream,by8 (flags c)]++zbt c.mid++[by8 c.part]++c.data
 else if c.kind=2 then zbt c.tag++zbt c.room++zcm c.zas
 else zbt c.tag++skipBytes c.zbr
def bytes (c:Chunk):List UInt8:=if zdq c=0 then by8 c.kind::by8 (body c).length::body c else []
theorem zlb (l:List Span):(zcm l).length=4*l.length:=by
 induction l with
 | nil=>rfl
 | cons x l ih=>simp only [zcm,List.flatMap_cons,zy8,zy6] at ih ⊢;simp [zbt] at ih ⊢;omega
theorem zla (l:List zdw):(skipBytes l).length=4*l.length:=by
 induction l with
 | nil=>rfl
 | cons x l ih=>simp only [skipBytes,List.flatMap_cons,zy8,zy6] at ih ⊢;simp [zbt] at ih ⊢;omega
theorem zzv {c:Chunk} (h:zdq c=0) (k:c.kind=1):1<=c.data.length/\c.data.length<=16:=by
 simp only [zdq] at h;(repeat' split at h)<;>first | omega | simp_all
theorem zwz {c:Chunk} (h:zdq c=0) (k:c.kind=2):c.zas.length<=6:=by
 simp only [zdq] at h;(repeat' split at h)<;>first | omega | simp_all
theorem zwy {c:Chunk} (h:zdq c=0) (k1:¬ c.kind=1) (k:¬ c.kind=2):c.zbr.length<=8:=by
 simp only [zdq] at h;(repeat' split at h)<;>first | omega | simp_all
theorem yaf {c:Chunk} (h:zdq c=0):(body c).length<=34:=by
 have h1:=zzv h;have h2:=zwz h;have h3:=zwy h;unfold body;split
 . have:=h1 ‹_›;simp [zbt];omega
 . split
   . have:=h2 ‹_›;simp [zbt,zlb];omega
   . have:=h3 ‹_› ‹_›;simp [zbt,zla];omega
theorem zzi (c:Chunk) (h9:c.zas.length<2 ^ 40) (h8:c.zbr.length<2 ^ 40):zan Tryz.prog 167 [c.hv] zad (.tup [zxw (bytes c),i64 (zdq c)]) zad:=by
 refine zal mixed Tryz.func167 zz4 ?_;(conv=>whnf);refine zbg (zw ?_);refine ⟨_,zzq c h9 h8,rfl,zw ?_⟩;refine zaf (fun h=>?_) (fun h=>?_)
 . conv=>whnf
   have h:¬ zdq c=0:=by simpa using h
   rw [bytes,zy0 h]
   rfl
 have h:zdq c=0:=by simpa using h
 rw [bytes,zy1 h];(conv=>whnf);refine ypn [(0,17)] (zw ?_);refine ⟨_,_,ywu c.tag,⟨⟨⟨rfl,rfl⟩,trivial⟩,rfl,rfl,rfl⟩,zw ?_⟩;refine zhs.meet PUnit (fun _=>hs 97 [(1,.ptr 1 0),(5,.own 900)] [(1,.live (.cells 61 c.cells)),(900,zlw (body c))]) ?_ ?_
 . have h1:zdq c=0:=h
   (conv=>whnf);refine zaf (fun k1=>?_) (fun k1=>?_)
   . conv=>whnf
     refine zdo (zw ?_);refine zbg (zw ?_);refine ⟨_,ych _ _,rfl,zw ?_⟩;refine zbg (zw ?_);refine ⟨_,ych _ _,rfl,zw ?_⟩;have hbits:bits .or .u8 (if c.last then 1 else 0) (if c.ordered then 2 else 0)=((by8 (flags c)).toNat:Int):=by
      unfold flags;cases c.last<;>cases c.ordered<;>kernel_rfl
     have hd:=(zzv h (by simpa using k1)).2;refine zaa (c:=(((zbt c.tag).map zcp).length+2)*1<=140737488355328) zz123 (zw ?_);refine zae [] [(1000,54)] [(0,57)] (zw ?_);refine ⟨_,_,_,_,zqi (zbt c.tag++[by8 c.stream,by8 (flags c)]) c.mid zz123,⟨rfl,rfl,rfl,⟨⟨rfl,_,rfl,.inl ⟨rfl,?_⟩⟩,trivial⟩,⟨⟨rfl,rfl⟩,trivial⟩,rfl,rfl,rfl⟩,?_⟩
     . show zai.live (.row _ 1 ((zbt c.tag).map zcp++[zcp (by8 c.stream),[.v (.int .u8 (bits .or .u8 (if c.last then 1 else 0) (if c.ordered then 2 else 0)))]]))=_
       rw [hbits]
       rfl
     (conv=>whnf);refine zaw ?_ ?_
     . kernel_rfl
     (conv=>whnf);refine zdo (zw ?_);refine zaa (c:=(((zbt c.tag++[by8 c.stream,by8 (flags c)]++zbt c.mid).map zcp).length+1)*1<=140737488355328) zz123 (zw ?_);refine zaa (c:=(((zbt c.tag++[by8 c.stream,by8 (flags c)]++zbt c.mid++[by8 c.part]).map zcp).length+(c.data.map zcp).length)*1<=140737488355328) zz90 (zw ?_);refine zaw ?_ ?_
     . kernel_rfl
     (conv=>whnf);refine ⟨⟨⟩,zcl [(1,some 1),(900,some 66)] rfl rfl rfl rfl ⟨⟨rfl,rfl⟩,⟨rfl,rfl⟩,trivial⟩ ⟨⟨rfl,.inl ⟨1,rfl,rfl⟩⟩,⟨rfl,.inl ⟨66,rfl,?_⟩⟩,trivial⟩⟩;show zai.live (.row _ 1 ((zbt c.tag++[by8 c.stream,by8 (flags c)]++zbt c.mid++[by8 c.part]).map zcp++c.data.map zcp))=zai.live (.row _ 1 ((body c).map zcp));have k1:c.kind=1:=by simpa using k1
     rw [body,zy1 k1,zy33 (l₂:=c.data)]
   . conv=>whnf
     refine zaf (fun k2=>?_) (fun k2=>?_)
     . conv=>whnf
       refine zae [] [(1000,17)] [(0,72)] (zw ?_);refine ⟨_,_,_,_,zqi (zbt c.tag) c.room zz123,⟨rfl,rfl,rfl,⟨zz1,trivial⟩,⟨⟨rfl,rfl⟩,trivial⟩,rfl,rfl,rfl⟩,?_⟩;(conv=>whnf);have k1:¬ c.kind=1:=by simpa using k1
       have k2:c.kind=2:=by simpa using k2
       have hsp:=zwz h k2;refine ⟨{k:Nat // k<=c.zas.length},fun | ⟨k,_⟩=>hs 97 [(1,.ptr 1 0),(5,.own 900),(74,ycg c.zas),(75,i64 c.zas.length),(76,i64 k)] [(1,.live (.cells 61 c.cells)),(900,zlw (zbt c.tag++zbt c.room++zcm (c.zas.take k)))],fun k=>c.zas.length-k.1,⟨0,by omega⟩,?_,?_⟩
       . refine zcl [(1,some 1),(900,some 72)] rfl rfl rfl rfl ⟨⟨rfl,rfl⟩,⟨rfl,rfl⟩,⟨rfl,rfl⟩,⟨rfl,by simp;rfl⟩,⟨rfl,rfl⟩,trivial⟩ ⟨⟨rfl,.inl ⟨1,rfl,rfl⟩⟩,⟨rfl,.inl ⟨72,rfl,?_⟩⟩,trivial⟩
         rfl
       rintro ⟨k,hk⟩;(conv=>whnf);refine zaf (fun c1=>?_) (fun c1=>?_)
       . have hlt:k<c.zas.length:=by simpa using c1
         (conv=>whnf);refine zcc (r:=(c.zas[k]).row) zz0 (by rw [zy22,zy17,zy3 hlt];rfl) ?_;have ht:zcm (c.zas.take (k+1))=zcm (c.zas.take k)++(zbt (c.zas[k]).lo++zbt (c.zas[k]).hi):=by
          rw [<- zy88 hlt,zcm,zy117];simp [zcm]
         have hlen:(zcm (c.zas.take k)).length<=24:=by
          rw [zlb];simp;omega
         generalize c.zas[k]=s at ht ⊢;(conv=>whnf);refine zae [] [(1000,900)] [(0,83)] (zw ?_);refine ⟨_,_,_,_,zqi (zbt c.tag++zbt c.room++zcm (c.zas.take k)) s.lo zz90,⟨rfl,rfl,rfl,⟨zz1,trivial⟩,⟨⟨rfl,rfl⟩,trivial⟩,rfl,rfl,rfl⟩,?_⟩;(conv=>whnf);refine zae [] [(1000,83)] [(0,86)] (zw ?_);refine ⟨_,_,_,_,zqi (zbt c.tag++zbt c.room++zcm (c.zas.take k)++zbt s.lo) s.hi zz90,⟨rfl,rfl,rfl,⟨zz1,trivial⟩,⟨⟨rfl,rfl⟩,trivial⟩,rfl,rfl,rfl⟩,?_⟩;(conv=>whnf);refine zaw ?_ ?_
         . kernel_rfl
         (conv=>whnf);refine sFm ?_;refine ⟨⟨k+1,hlt⟩,zcl [(1,some 1),(900,some 86)] rfl rfl rfl rfl ⟨⟨rfl,rfl⟩,⟨rfl,rfl⟩,⟨rfl,rfl⟩,⟨rfl,rfl⟩,⟨rfl,by simp;rfl⟩,trivial⟩ ⟨⟨rfl,.inl ⟨1,rfl,rfl⟩⟩,⟨rfl,.inl ⟨86,rfl,?_⟩⟩,trivial⟩,by dsimp only;omega⟩;show zlw (zbt c.tag++zbt c.room++zcm (c.zas.take k)++zbt s.lo++zbt s.hi)=zlw (zbt c.tag++zbt c.room++zcm (c.zas.take (k+1)));rw [ht];simp only [zy27]
       . conv=>whnf
         exact yy54
     . conv=>whnf
       have k1:¬ c.kind=1:=by simpa using k1
       have k2:¬ c.kind=2:=by simpa using k2
       have hsk:=zwy h k1 k2;refine ⟨{k:Nat // k<=c.zbr.length},fun | ⟨k,_⟩=>hs 97 [(1,.ptr 1 0),(5,.own 900),(21,yce c.zbr),(22,i64 c.zbr.length),(23,i64 k)] [(1,.live (.cells 61 c.cells)),(900,zlw (zbt c.tag++skipBytes (c.zbr.take k)))],fun k=>c.zbr.length-k.1,⟨0,by omega⟩,?_,?_⟩
       . refine zcl [(1,some 1),(900,some 17)] rfl rfl rfl rfl ⟨⟨rfl,rfl⟩,⟨rfl,rfl⟩,⟨rfl,rfl⟩,⟨rfl,by simp;rfl⟩,⟨rfl,rfl⟩,trivial⟩ ⟨⟨rfl,.inl ⟨1,rfl,rfl⟩⟩,⟨rfl,.inl ⟨17,rfl,?_⟩⟩,trivial⟩
         rfl
       rintro ⟨k,hk⟩;(conv=>whnf);refine zaf (fun c1=>?_) (fun c1=>?_)
       . have hlt:k<c.zbr.length:=by simpa using c1
         (conv=>whnf);refine zcc (r:=(c.zbr[k]).row) zz0 (by rw [zy22,zy17,zy3 hlt];rfl) ?_;have ht:skipBytes (c.zbr.take (k+1))=skipBytes (c.zbr.take k)++([by8 (c.zbr[k]).stream,by8 (if (c.zbr[k]).ordered then 1 else 0)]++zbt (c.zbr[k]).mid):=by
          rw [<- zy88 hlt,skipBytes,zy117];simp [skipBytes]
         have hlen:(skipBytes (c.zbr.take k)).length<=32:=by
          rw [zla];simp;omega
         generalize c.zbr[k]=s at ht ⊢;(conv=>whnf);refine zdo (zw ?_);refine zbg (zw ?_);refine ⟨_,ych _ _,rfl,zw ?_⟩;refine zaa (c:=(((zbt c.tag++skipBytes (c.zbr.take k)).map zcp).length+2)*1<=140737488355328) zz90 (zw ?_);refine zae [] [(1000,35)] [(0,38)] (zw ?_);refine ⟨_,_,_,_,zqi (zbt c.tag++skipBytes (c.zbr.take k)++[by8 s.stream,by8 (if s.ordered then 1 else 0)]) s.mid zz90,⟨rfl,rfl,rfl,⟨⟨rfl,_,rfl,.inl ⟨rfl,?_⟩⟩,trivial⟩,⟨⟨rfl,rfl⟩,trivial⟩,rfl,rfl,rfl⟩,?_⟩
         . show zai.live (.row _ 1 ((zbt c.tag++skipBytes (c.zbr.take k)).map zcp++[zcp (by8 s.stream),[.v (.int .u8 (if s.ordered then 1 else 0))]]))=zlw _
           simp only [zlw,zy33];cases s.ordered<;>rfl
         (conv=>whnf);refine zaw ?_ ?_
         . kernel_rfl
         (conv=>whnf);refine sFm ?_;refine ⟨⟨k+1,hlt⟩,zcl [(1,some 1),(900,some 38)] rfl rfl rfl rfl ⟨⟨rfl,rfl⟩,⟨rfl,rfl⟩,⟨rfl,rfl⟩,⟨rfl,rfl⟩,⟨rfl,by simp;rfl⟩,trivial⟩ ⟨⟨rfl,.inl ⟨1,rfl,rfl⟩⟩,⟨rfl,.inl ⟨38,rfl,?_⟩⟩,trivial⟩,by dsimp only;omega⟩;show zlw (zbt c.tag++skipBytes (c.zbr.take k)++[by8 s.stream,by8 (if s.ordered then 1 else 0)]++zbt s.mid)=zlw (zbt c.tag++skipBytes (c.zbr.take (k+1)));rw [ht];simp only [zy27]
       . conv=>whnf
         exact yy57
 . rintro ⟨⟩
   exact yy73
theorem yoi:∀ {l:List Span} {last:Int},zed last l=0->0<=last->∀ s∈l,(0<=s.lo/\s.lo<65536)/\(0<=s.hi/\s.hi<65536)
 | [],_,_,_,s,hs=>by cases hs
 | x::r,last,h,h0,s,hs=>by
  simp only [zed] at h;split at h
  . omega
  . rename_i hn
    rcases zy13.1 hs with rfl | hs
    . omega
    . exact yoi h zz0 s hs
theorem yog:∀ {l:List zdw},zec l=0->∀ s∈l,(0<=s.stream/\s.stream<4)/\(0<=s.mid/\s.mid<65536)
 | [],_,s,hs=>by cases hs
 | x::r,h,s,hs=>by
  simp only [zec] at h;split at h
  . omega
  . rename_i hn
    rcases zy13.1 hs with rfl | hs
    . omega
    . exact yog h s hs
structure xip (c:Chunk):Prop where
 kind:1<=c.kind/\c.kind<=3
 tag:0<=c.tag/\c.tag<65536
 data:c.kind=1->(0<=c.stream/\c.stream<4)/\(0<=c.mid/\c.mid<65536)/\(0<=c.part/\c.part<=255)/\1<=c.data.length/\c.data.length<=16
 room:c.kind=2->(0<=c.room/\c.room<65536)/\c.zas.length<=6/\zed 1 c.zas=0
 zbr:¬ c.kind=1->¬ c.kind=2->c.zbr.length<=8/\zec c.zbr=0
theorem xhc {c:Chunk} (h:zdq c=0):xip c:=by
 simp only [zdq] at h
 (repeat' split at h)<;>first | omega | (constructor<;>first | omega | (intros;omega) | skip)
theorem yky (c:Chunk) (h9:c.zas.length<2 ^ 40) (h8:c.zbr.length<2 ^ 40):zan Tryz.prog 144 [c.hv] zad (.tup [zxw (bytes c),i64 (zdq c)]) zad:=by
 refine zal mixed Tryz.func144 zz4 ?_;(conv=>whnf);refine zbg (zw ?_);refine ⟨_,zhe c h9 h8,rfl,zw ?_⟩;refine zaf (fun h=>?_) (fun h=>?_)
 . conv=>whnf
   have h:¬ zdq c=0:=by simpa using h
   rw [bytes,zy0 h]
   rfl
 have h:zdq c=0:=by simpa using h
 rw [bytes,zy1 h];have hf:=xhc h;(conv=>whnf);refine zat [(0,18)] (zw ?_);refine ⟨_,_,zko c.tag hf.tag,⟨⟨⟨rfl,rfl⟩,trivial⟩,rfl,rfl,rfl⟩,zw ?_⟩;refine zhs.meet PUnit (fun _=>hs 110 [(1,.ptr 1 0),(5,.own 900)] [(1,.live (.cells 61 c.cells)),(900,zlw (body c))]) ?_ ?_
 . conv=>whnf
   refine zaf (fun k1=>?_) (fun k1=>?_)
   . have k1:c.kind=1:=by simpa using k1
     obtain ⟨d1,d2,d3,d4,d5⟩:=hf.data k1;(conv=>whnf);refine zdo (zw ?_);refine zbg (zw ?_);refine ⟨_,zrz _ _,rfl,zw ?_⟩;refine zbg (zw ?_);refine ⟨_,zrz _ _,rfl,zw ?_⟩;refine zaq (zbu (by split<;>split<;>omega) (by split<;>split<;>omega)) (zw ?_);refine zdo (zw ?_);refine zaa (c:=(((zbt c.tag).map zcp).length+2)*1<=140737488355328) zz123 (zw ?_);refine zaw ?_ ?_
     . kernel_rfl
     (conv=>whnf);refine zat [(0,65)] (zw ?_);refine ⟨_,_,zko c.mid d2,⟨⟨⟨rfl,rfl⟩,trivial⟩,rfl,rfl,rfl⟩,zw ?_⟩;refine zaa (c:=(((zbt c.tag++[by8 c.stream,by8 (flags c)]).map zcp).length+((zbt c.mid).map zcp).length)*1<=140737488355328) zz123 (zw ?_);refine zdo (zw ?_);refine zaa (c:=(((zbt c.tag++[by8 c.stream,by8 (flags c)]++zbt c.mid).map zcp).length+1)*1<=140737488355328) zz123 (zw ?_);refine zaa (c:=(((zbt c.tag++[by8 c.stream,by8 (flags c)]++zbt c.mid++[by8 c.part]).map zcp).length+(c.data.map zcp).length)*1<=140737488355328) zz90 (zw ?_);refine ⟨⟨⟩,zcl [(1,some 1),(900,some 76)] rfl rfl rfl rfl ⟨⟨rfl,rfl⟩,⟨rfl,rfl⟩,trivial⟩ ⟨⟨rfl,.inl ⟨1,rfl,rfl⟩⟩,⟨rfl,.inl ⟨76,rfl,?_⟩⟩,trivial⟩⟩;show zai.live (.row _ 1 ((zbt c.tag++[by8 c.stream,by8 (flags c)]++zbt c.mid++[by8 c.part]).map zcp++c.data.map zcp))=zai.live (.row _ 1 ((body c).map zcp));rw [body,zy1 k1,zy33 (l₂:=c.data)]
   . conv=>whnf
     have k1:¬ c.kind=1:=by simpa using k1
     refine zaf (fun k2=>?_) (fun k2=>?_)
     . conv=>whnf
       have k2:c.kind=2:=by simpa using k2
       obtain ⟨d1,hsp,d3⟩:=hf.room k2;have hok:=yoi d3 zz4;refine zat [(0,82)] (zw ?_);refine ⟨_,_,zko c.room d1,⟨⟨⟨rfl,rfl⟩,trivial⟩,rfl,rfl,rfl⟩,zw ?_⟩;refine zaa (c:=(((zbt c.tag).map zcp).length+((zbt c.room).map zcp).length)*1<=140737488355328) zz123 (zw ?_);refine ⟨{k:Nat // k<=c.zas.length},fun | ⟨k,_⟩=>hs 110 [(1,.ptr 1 0),(5,.own 900),(85,ycg c.zas),(86,i64 c.zas.length),(87,i64 k)] [(1,.live (.cells 61 c.cells)),(900,zlw (zbt c.tag++zbt c.room++zcm (c.zas.take k)))],fun k=>c.zas.length-k.1,⟨0,by omega⟩,?_,?_⟩
       . refine zcl [(1,some 1),(900,some 83)] rfl rfl rfl rfl ⟨⟨rfl,rfl⟩,⟨rfl,rfl⟩,⟨rfl,rfl⟩,⟨rfl,by simp;rfl⟩,⟨rfl,rfl⟩,trivial⟩ ⟨⟨rfl,.inl ⟨1,rfl,rfl⟩⟩,⟨rfl,.inl ⟨83,rfl,?_⟩⟩,trivial⟩
         rfl
       rintro ⟨k,hk⟩;(conv=>whnf);refine zaf (fun c1=>?_) (fun c1=>?_)
       . have hlt:k<c.zas.length:=by simpa using c1
         (conv=>whnf);refine zcc (r:=(c.zas[k]).row) zz0 (by rw [zy22,zy17,zy3 hlt];rfl) ?_;have ht:zcm (c.zas.take (k+1))=zcm (c.zas.take k)++(zbt (c.zas[k]).lo++zbt (c.zas[k]).hi):=by
          rw [<- zy88 hlt,zcm,zy117];simp [zcm]
         have hlen:(zcm (c.zas.take k)).length<=24:=by
          rw [zlb];simp;omega
         obtain ⟨g1,g2⟩:=hok _ (zy51 hlt);generalize c.zas[k]=s at ht g1 g2 ⊢;(conv=>whnf);refine zat [(0,94)] (zw ?_);refine ⟨_,_,zko s.lo g1,⟨⟨⟨rfl,rfl⟩,trivial⟩,rfl,rfl,rfl⟩,zw ?_⟩;refine zaa (c:=(((zbt c.tag++zbt c.room++zcm (c.zas.take k)).map zcp).length+((zbt s.lo).map zcp).length)*1<=140737488355328) zz90 (zw ?_);refine zat [(0,98)] (zw ?_);refine ⟨_,_,zko s.hi g2,⟨⟨⟨rfl,rfl⟩,trivial⟩,rfl,rfl,rfl⟩,zw ?_⟩;refine zaa (c:=(((zbt c.tag++zbt c.room++zcm (c.zas.take k)).map zcp++(zbt s.lo).map zcp).length+((zbt s.hi).map zcp).length)*1<=140737488355328) zz90 (zw ?_);refine zaw ?_ ?_
         . kernel_rfl
         (conv=>whnf);refine sFm ?_;refine ⟨⟨k+1,hlt⟩,zcl [(1,some 1),(900,some 99)] rfl rfl rfl rfl ⟨⟨rfl,rfl⟩,⟨rfl,rfl⟩,⟨rfl,rfl⟩,⟨rfl,rfl⟩,⟨rfl,by simp;rfl⟩,trivial⟩ ⟨⟨rfl,.inl ⟨1,rfl,rfl⟩⟩,⟨rfl,.inl ⟨99,rfl,?_⟩⟩,trivial⟩,by dsimp only;omega⟩;show zai.live (.row _ 1 ((zbt c.tag++zbt c.room++zcm (c.zas.take k)).map zcp++(zbt s.lo).map zcp++(zbt s.hi).map zcp))=zlw (zbt c.tag++zbt c.room++zcm (c.zas.take (k+1)));rw [ht];simp only [zlw,zy33,zy27]
       . conv=>whnf
         exact yy54
     . conv=>whnf
       have k2:¬ c.kind=2:=by simpa using k2
       obtain ⟨hsk,d3⟩:=hf.zbr k1 k2;have hok:=yog d3;refine ⟨{k:Nat // k<=c.zbr.length},fun | ⟨k,_⟩=>hs 110 [(1,.ptr 1 0),(5,.own 900),(6,.clo 171 []),(22,yce c.zbr),(23,i64 c.zbr.length),(24,i64 k)] [(1,.live (.cells 61 c.cells)),(900,zlw (zbt c.tag++skipBytes (c.zbr.take k)))],fun k=>c.zbr.length-k.1,⟨0,by omega⟩,?_,?_⟩
       . refine zcl [(1,some 1),(900,some 18)] rfl rfl rfl rfl ⟨⟨rfl,rfl⟩,⟨rfl,rfl⟩,⟨rfl,rfl⟩,⟨rfl,rfl⟩,⟨rfl,by simp;rfl⟩,⟨rfl,rfl⟩,trivial⟩ ⟨⟨rfl,.inl ⟨1,rfl,rfl⟩⟩,⟨rfl,.inl ⟨18,rfl,?_⟩⟩,trivial⟩
         rfl
       rintro ⟨k,hk⟩;(conv=>whnf);refine zaf (fun c1=>?_) (fun c1=>?_)
       . have hlt:k<c.zbr.length:=by simpa using c1
         (conv=>whnf);refine zcc (r:=(c.zbr[k]).row) zz0 (by rw [zy22,zy17,zy3 hlt];rfl) ?_;have ht:skipBytes (c.zbr.take (k+1))=skipBytes (c.zbr.take k)++([by8 (c.zbr[k]).stream,by8 (if (c.zbr[k]).ordered then 1 else 0)]++zbt (c.zbr[k]).mid):=by
          rw [<- zy88 hlt,skipBytes,zy117];simp [skipBytes]
         have hlen:(skipBytes (c.zbr.take k)).length<=32:=by
          rw [zla];simp;omega
         obtain ⟨g1,g2⟩:=hok _ (zy51 hlt);generalize c.zbr[k]=s at ht g1 g2 ⊢;(conv=>whnf);refine zdo (zw ?_);refine zbg (zw ?_);refine ⟨_,zrz _ _,rfl,zw ?_⟩;refine zdo (zw ?_);refine zaa (c:=(((zbt c.tag++skipBytes (c.zbr.take k)).map zcp).length+2)*1<=140737488355328) zz90 (zw ?_);refine zat [(0,41)] (zw ?_);refine ⟨_,_,zko s.mid g2,⟨⟨⟨rfl,rfl⟩,trivial⟩,rfl,rfl,rfl⟩,zw ?_⟩;refine zaa (c:=(((zbt c.tag++skipBytes (c.zbr.take k)).map zcp++[zcp (by8 s.stream),zcp (by8 (if s.ordered then 1 else 0))]).length+((zbt s.mid).map zcp).length)*1<=140737488355328) zz90 (zw ?_);refine zaw ?_ ?_
         . kernel_rfl
         (conv=>whnf);refine sFm ?_;refine ⟨⟨k+1,hlt⟩,zcl [(1,some 1),(900,some 42)] rfl rfl rfl rfl ⟨⟨rfl,rfl⟩,⟨rfl,rfl⟩,⟨rfl,rfl⟩,⟨rfl,rfl⟩,⟨rfl,rfl⟩,⟨rfl,by simp;rfl⟩,trivial⟩ ⟨⟨rfl,.inl ⟨1,rfl,rfl⟩⟩,⟨rfl,.inl ⟨42,rfl,?_⟩⟩,trivial⟩,by dsimp only;omega⟩;show zai.live (.row _ 1 ((zbt c.tag++skipBytes (c.zbr.take k)).map zcp++[zcp (by8 s.stream),zcp (by8 (if s.ordered then 1 else 0))]++(zbt s.mid).map zcp))=zlw (zbt c.tag++skipBytes (c.zbr.take (k+1)));rw [ht];simp only [zlw,zy33,zy27];rfl
       . conv=>whnf
         exact yy57
 . rintro ⟨⟩
   exact yy73
end Chk
namespace Chk
def zpc (b:List UInt8) (i:Nat):Int:=zin (b[i]?.getD 0) (b[i+1]?.getD 0)
def no:Chunk:=⟨0,0,0,0,0,false,false,[],[],0,[]⟩
def zeh:List UInt8->List Span
 | a::b::c::d::r=>⟨zin a b,zin c d⟩::zeh r
 | _=>[]
def zco:List UInt8->List zdw×Bool
 | s::f::m::n::r=>if f.toNat>1 then ([],false) else (⟨s.toNat,zin m n,f.toNat==1⟩::(zco r).1,(zco r).2)
 | _=>([],true)
def zcz (kind:Int) (b:List UInt8):Chunk×Bool :=
 if b.length<2 then ({no with kind:=kind},false) else
 if kind=1 then
  if b.length<7\/(b[3]?.getD 0).toNat>3 then ({no with kind:=kind,tag:=zpc b 0},false)
  else ({no with kind:=kind,tag:=zpc b 0,stream:=(b[2]?.getD 0).toNat,last:=(b[3]?.getD 0).toNat % 2 != 0,ordered:=(b[3]?.getD 0).toNat / 2*2 != 0,mid:=zpc b 4,part:=(b[6]?.getD 0).toNat,data:=b.drop 7},true)
 else if kind=2 then
  if b.length<4\/b.length % 4≠0 then ({no with kind:=kind,tag:=zpc b 0},false)
  else ({no with kind:=kind,tag:=zpc b 0,room:=zpc b 2,zas:=zeh (b.drop 4)},true)
 else if b.length % 4≠2 then ({no with kind:=kind,tag:=zpc b 0},false)
  else ({no with kind:=kind,tag:=zpc b 0,zbr:=(zco (b.drop 2)).1},(zco (b.drop 2)).2)
def yli:List HV:=[i64 0,i64 0,i64 0,i64 0,i64 0,zbj false,zbj false,zee,zee,i64 0,zee]
theorem zup (b:List UInt8) (j i:Nat):zpc (b.drop j) i=zpc b (j+i):=by
 unfold zpc;rw [zy53,zy53,zy97]
theorem zlc:∀ l:List UInt8,(zeh l).length=l.length / 4
 | a::b::c::d::r=>by simp only [zeh,zy6,zlc r];omega
 | []=>by simp [zeh]
 | [_]=>by simp [zeh]
 | [_,_]=>by simp [zeh]
 | [_,_,_]=>by simp [zeh]
theorem xhp {b:List UInt8} {j:Nat} (h:j+4<=b.length):b.drop j=b[j]?.getD 0::b[j+1]?.getD 0::b[j+2]?.getD 0::b[j+3]?.getD 0::b.drop (j+4):=by
 rw [zy18 (by omega),zy18 (by omega),zy18 (by omega),zy18 (by omega)];rw [zy3 (by omega),zy3 (by omega),zy3 (by omega),zy3 (by omega)]
 rfl
theorem ywj {b:List UInt8} {j:Nat} (h:j+4<=b.length):zco (b.drop j) =
 if (b[j+1]?.getD 0).toNat>1 then ([],false) else (⟨(b[j]?.getD 0).toNat,zpc b (j+2),(b[j+1]?.getD 0).toNat==1⟩::(zco (b.drop (j+4))).1,(zco (b.drop (j+4))).2):=by
 rw [xhp h,zco];rfl
theorem ztc:∀ {k:Nat} {l:List UInt8},4*k+4<=l.length->(zeh l).take (k+1)=(zeh l).take k++[⟨zpc l (4*k),zpc l (4*k+2)⟩]
 | k,[],h=>by simp at h
 | k,[_],h=>by simp at h
 | k,[_,_],h=>by simp at h
 | k,[_,_,_],h=>by simp at h
 | 0,a::b::c::d::r,h=>by simp [zeh,zpc]
 | k+1,a::b::c::d::r,h=>by
  have:=ztc (k:=k) (l:=r) (by simp at h;omega);simp only [zeh,List.take_succ_cons,this,zy40];have e:∀ i,zpc (a::b::c::d::r) (4*(k+1)+i)=zpc r (4*k+i):=by
   intro i;have:=zup (a::b::c::d::r) 4 (4*k+i);rw [show 4*(k+1)+i=4+(4*k+i) by omega,<- this]
   rfl
  rw [e 2];have:=e 0;simp only [zy89] at this;rw [this]
theorem xew {b:List UInt8} {i:Nat} (h:i<b.length):(b.map zcp)[i]?=some (zcp (b[i]?.getD 0)):=by
 rw [zy17,zy3 h];rfl
theorem zlo (b:UInt8):W (b.toNat:Int)=b.toNat:=by have:=b.toNat_lt;exact zbu zz0 zz0
theorem zni (b:List UInt8) (i:Nat) (h:i+1<b.length) (hb:b.length<2 ^ 40):zan Tryz.prog 203 [zxw b,i64 i] zad (i64 (zpc b i)) zad:=by
 refine zal mixed Tryz.func203 zz4 ?_;have e1:W ((i:Int)+1)=((i+1:Nat):Int):=by rw [zbu (by omega) (by omega)];push_cast;rfl
 (conv=>whnf);refine zcc (r:=zcp (b[i]?.getD 0)) zz0 (by rw [zy22];exact xew (by omega)) ?_;(conv=>whnf);refine zaq (zlo _) (zw ?_);refine zaa zz4 (zw ?_);refine zaq (zbu (z:=((b[i]?.getD 0).toNat:Int)*256) (by have:=(b[i]?.getD 0).toNat_lt;omega) (by have:=(b[i]?.getD 0).toNat_lt;omega)) (zw ?_);refine zaq e1 (zw ?_);refine ziq (i+1) (by push_cast;rfl) h ?_;(conv=>whnf);refine zaq (zlo _) (zw ?_);refine zaw ?_ ?_
 . kernel_rfl
 (conv=>whnf);show i64 (bits .or .i64 (((b[i]?.getD 0).toNat:Int)*256) ((b[i+1]?.getD 0).toNat:Int))=i64 (zpc b i);rw [yzr _ _ (b[i]?.getD 0).toNat_lt (b[i+1]?.getD 0).toNat_lt]
 rfl
theorem ywm (kind:Int) (b:List UInt8) (hb:b.length<2 ^ 40):zan Tryz.prog 194 [i64 kind,zxw b] zad (.tup [(zcz kind b).1.hv,zbj (zcz kind b).2]) zad:=by
 refine zal mixed Tryz.func194 zz4 ?_;have hl:(b.map zcp).length=b.length:=by simp
 (conv=>whnf);refine zaf (fun c1=>?_) (fun c1=>?_)
 . have c1:(b.length:Int)<2:=by simpa using c1
   rw [zcz,zy1 (by omega)];(conv=>whnf)
   rfl
 have c1:¬ (b.length:Int)<2:=by simpa using c1
 rw [zcz,zy0 (by omega)];(conv=>whnf);refine zbg (zw ?_);refine ⟨_,zni b 0 zz0 hb,rfl,zw ?_⟩;refine zhs.go (zw ?_);refine zaf (fun k1=>?_) (fun k1=>?_)
 . have k1:kind=1:=by simpa using k1
   rw [zy1 k1];(conv=>whnf);refine zaf (fun c2=>?_) (fun c2=>?_)
   . have c2:(b.length:Int)<7:=by simpa using c2
     rw [zy1 (.inl (by omega))];(conv=>whnf)
     rfl
   have c2:¬ (b.length:Int)<7:=by simpa using c2
   (conv=>whnf);refine zcc (r:=zcp (b[3]?.getD 0)) zz0 (xew zz0) ?_;(conv=>whnf);refine zaf (fun c3=>?_) (fun c3=>?_)
   . have c3:((b[3]?.getD 0).toNat:Int)>3:=zy24 c3
     rw [zy1 (.inr (by omega))];(conv=>whnf)
     rfl
   have c3:¬ ((b[3]?.getD 0).toNat:Int)>3:=zy32 c3;rw [zy0 (by omega)];(conv=>whnf);refine zcc (r:=zcp (b[2]?.getD 0)) zz0 (xew zz0) ?_;(conv=>whnf);refine zaq (zlo _) (zw ?_);refine zcc (r:=zcp (b[3]?.getD 0)) zz0 (xew zz0) ?_;(conv=>whnf);refine zcc (r:=zcp (b[3]?.getD 0)) zz0 (xew zz0) ?_;(conv=>whnf);refine zaw ?_ ?_
   . kernel_rfl
   (conv=>whnf);refine zbg (zw ?_);refine ⟨_,zni b 4 zz0 hb,rfl,zw ?_⟩;refine zcc (r:=zcp (b[6]?.getD 0)) zz0 (xew zz0) ?_;(conv=>whnf);refine zaq (zlo _) (zw ?_);refine zaa zz0 (zw ?_);refine zfh (l:=b) zz3 ?_;(conv=>whnf);refine zaa (c:=((b.drop 7).map zcp).length*1<=140737488355328) zz3 (zw ?_);refine zaw ?_ ?_
   . kernel_rfl
   (conv=>whnf);have e1:=xcl (b[3]?.getD 0);have e2:=xcn (b[3]?.getD 0) zz0;have key:∀ (n m:Int) (k:Nat),n=k->(n != 0)=(k != 0):=by
    intro n m k h;subst h;cases k<;>rfl
   rw [key _ 0 _ e1,key _ 0 _ e2]
   rfl
 have k1:¬ kind=1:=by simpa using k1
 rw [zy0 k1];(conv=>whnf);refine zaf (fun k2=>?_) (fun k2=>?_)
 . have k2:kind=2:=by simpa using k2
   rw [zy1 k2];(conv=>whnf);refine zaf (fun c2=>?_) (fun c2=>?_)
   . have c2:(b.length:Int)<4:=by simpa using c2
     rw [zy1 (.inl (by omega))];(conv=>whnf)
     rfl
   have c2:¬ (b.length:Int)<4:=by simpa using c2
   (conv=>whnf);refine zaa zz4 (zw ?_);refine zaf (fun c3=>?_) (fun c3=>?_)
   . have c3:¬ ((b.length:Int).tmod 4=0):=by simpa using c3
     rw [zy1 (.inr (by rw [zy82 (by omega)] at c3;omega))];(conv=>whnf)
     rfl
   have c3:(b.length:Int).tmod 4=0:=by simpa using c3
   have c4:b.length % 4=0:=by rw [zy82 (by omega)] at c3;omega
   rw [zy0 (by omega)];(conv=>whnf);refine zbg (zw ?_);refine ⟨_,zni b 2 zz0 hb,rfl,zw ?_⟩;refine ⟨{k:Nat // 4+4*k<=b.length},fun | ⟨k,_⟩=>hs 134 [(1,zxw b),(4,.ptr 4 0),(6,.ptr 6 0),(7,i64 (4+4*k:Nat))] [(4,.live (.cells 61 yli)),(6,.live (.cells 61 [i64 kind,i64 (zpc b 0),i64 0,i64 0,i64 0,zbj false,zbj false,zee,.own 900,i64 (zpc b 2),zee])),(900,.live (.row 199 2 (((zeh (b.drop 4)).take k).map Span.row)))],fun x=>b.length-4*x.1,⟨0,by omega⟩,?_,?_⟩
   . exact zcl [(4,some 4),(6,some 6),(900,none)] rfl rfl rfl rfl ⟨⟨rfl,rfl⟩,⟨rfl,rfl⟩,⟨rfl,rfl⟩,⟨rfl,rfl⟩,trivial⟩ ⟨⟨rfl,.inl ⟨4,rfl,rfl⟩⟩,⟨rfl,.inl ⟨6,rfl,rfl⟩⟩,⟨rfl,.inr ⟨rfl,rfl⟩⟩,trivial⟩
   rintro ⟨k,hk⟩;(conv=>whnf);refine zaf (fun c=>?_) (fun c=>?_)
   . have hlt:4+4*k<b.length:=by
      have:=zy24 c;rw [zy2] at this;omega
     (conv=>whnf);refine zbg (zw ?_);refine ⟨_,zni b (4+4*k) zz0 hb,rfl,zw ?_⟩;refine zaq (z:=((4+4*k:Nat):Int)+2) (zbu zz0 zz0) (zw ?_);refine zbg (zw ?_);refine ⟨_,zni b (4+4*k+2) zz0 hb,rfl,zw ?_⟩;refine zaa (c:=(((((zeh (b.drop 4)).take k).map Span.row).length)+1)*16<=140737488355328) zz3 (zw ?_);refine zaw ?_ ?_
     . kernel_rfl
     (conv=>whnf);refine zaq (z:=((4+4*k:Nat):Int)+4) (zbu zz0 zz0) (zw ?_);have ht:=ztc (l:=b.drop 4) (k:=k) zz3;refine ⟨⟨k+1,by omega⟩,zcl [(4,some 4),(6,some 6),(900,some 131)] rfl rfl rfl rfl ⟨⟨rfl,rfl⟩,⟨rfl,rfl⟩,⟨rfl,rfl⟩,⟨rfl,rfl⟩,trivial⟩ ⟨⟨rfl,.inl ⟨4,rfl,rfl⟩⟩,⟨rfl,.inl ⟨6,rfl,rfl⟩⟩,⟨rfl,.inl ⟨131,rfl,?_⟩⟩,trivial⟩,by dsimp only;omega⟩;show zai.live (.row _ 2 (((zeh (b.drop 4)).take k).map Span.row++[Span.row ⟨zpc b (4+4*k),zpc b (4+4*k+2)⟩]))=zai.live (.row _ 2 (((zeh (b.drop 4)).take (k+1)).map Span.row));rw [ht,zy33,zup,zup]
     rfl
   . have hge:¬ 4+4*k<b.length:=by
      have:=zy32 c;rw [zy2] at this;omega
     (conv=>whnf);rw [zy37 (by rw [zlc];simp;omega)]
     rfl
 have k2:¬ kind=2:=by simpa using k2
 rw [zy0 k2];(conv=>whnf);refine zaa zz4 (zw ?_);refine zaf (fun c3=>?_) (fun c3=>?_)
 . have c3:¬ ((b.length:Int).tmod 4=2):=by simpa using c3
   rw [zy1 (by rw [zy82 (by omega)] at c3;omega)];(conv=>whnf)
   rfl
 have c3:(b.length:Int).tmod 4=2:=by simpa using c3
 have c4:b.length % 4=2:=by rw [zy82 (by omega)] at c3;omega
 rw [zy0 (by omega)];(conv=>whnf);refine ⟨{x:Nat×List zdw // 2+4*x.1<=b.length/\x.2.length=x.1/\zco (b.drop 2)=(x.2++(zco (b.drop (2+4*x.1))).1,(zco (b.drop (2+4*x.1))).2)},fun | ⟨(k,acc),_⟩=>hs 134 [(1,zxw b),(4,.ptr 4 0),(6,.ptr 6 0),(8,i64 (2+4*k:Nat))] [(4,.live (.cells 61 yli)),(6,.live (.cells 61 [i64 kind,i64 (zpc b 0),i64 0,i64 0,i64 0,zbj false,zbj false,zee,zee,i64 0,.own 900])),(900,.live (.row 180 3 (acc.map zdw.row)))],fun x=>b.length-4*x.1.1,⟨(0,[]),by dsimp only;omega,rfl,by simp⟩,?_,?_⟩
 . exact zcl [(4,some 4),(6,some 6),(900,none)] rfl rfl rfl rfl ⟨⟨rfl,rfl⟩,⟨rfl,rfl⟩,⟨rfl,rfl⟩,⟨rfl,rfl⟩,trivial⟩ ⟨⟨rfl,.inl ⟨4,rfl,rfl⟩⟩,⟨rfl,.inl ⟨6,rfl,rfl⟩⟩,⟨rfl,.inr ⟨rfl,rfl⟩⟩,trivial⟩
 rintro ⟨⟨k,acc⟩,hk,hlen,zer⟩;dsimp only at hk hlen zer;(conv=>whnf);refine zaf (fun c=>?_) (fun c=>?_)
 . have hlt:2+4*k<b.length:=by
    have:=zy24 c;rw [zy2] at this;omega
   rw [ywj (j:=2+4*k) (by omega)] at zer;(conv=>whnf);refine zaq (z:=((2+4*k:Nat):Int)+1) (zbu zz0 zz0) (zw ?_);refine ziq (2+4*k+1) (by push_cast;rfl) zz0 ?_;(conv=>whnf);refine zaf (fun c5=>?_) (fun c5=>?_)
   . have c5:=zy24 c5
     rw [zy1 (by omega)] at zer;(conv=>whnf);rw [zer,zy4]
     rfl
   have c5:=zy32 c5;rw [zy0 (by omega)] at zer;(conv=>whnf);refine ziq (2+4*k) rfl zz0 ?_;(conv=>whnf);refine zaq (zlo _) (zw ?_);refine zaq (z:=((2+4*k:Nat):Int)+1) (zbu zz0 zz0) (zw ?_);refine ziq (2+4*k+1) (by push_cast;rfl) zz0 ?_;(conv=>whnf);refine zaq (z:=((2+4*k:Nat):Int)+2) (zbu zz0 zz0) (zw ?_);refine zbg (zw ?_);refine ⟨_,zni b (2+4*k+2) zz0 hb,rfl,zw ?_⟩;refine zaa (c:=((acc.map zdw.row).length+1)*24<=140737488355328) zz3 (zw ?_);refine zaw ?_ ?_
   . kernel_rfl
   (conv=>whnf);refine zaq (z:=((2+4*k:Nat):Int)+4) (zbu zz0 zz0) (zw ?_);refine ⟨⟨(k+1,acc++[⟨(b[2+4*k]?.getD 0).toNat,zpc b (2+4*k+2),(b[2+4*k+1]?.getD 0).toNat==1⟩]),by dsimp only;omega,by simp [hlen],by
    dsimp only;rw [zer,show 2+4*k+4=2+4*(k+1) by omega];simp⟩,zcl [(4,some 4),(6,some 6),(900,some 56)] rfl rfl rfl rfl ⟨⟨rfl,rfl⟩,⟨rfl,rfl⟩,⟨rfl,rfl⟩,⟨rfl,rfl⟩,trivial⟩ ⟨⟨rfl,.inl ⟨4,rfl,rfl⟩⟩,⟨rfl,.inl ⟨6,rfl,rfl⟩⟩,⟨rfl,.inl ⟨56,rfl,?_⟩⟩,trivial⟩,by dsimp only;omega⟩
   have hbeq:∀ n:Nat,((n:Int)==1)=(n==1):=by
    intro n;rcases Nat.decEq n 1 with h | h
    . rw [show ((n:Int)==1)=false from by simpa using (by omega:¬ (n:Int)=1),show (n==1)=false from by simpa using h]
    . subst h;rfl
   show zai.live (.row _ 3 (acc.map zdw.row++[[pi (b[2+4*k]?.getD 0).toNat,pi (zpc b (2+4*k+2)),pb (((b[2+4*k+1]?.getD 0).toNat:Int)==1)]]))=_;rw [hbeq,zy33]
   rfl
 . have hge:¬ 2+4*k<b.length:=by
    have:=zy32 c;rw [zy2] at this;omega
   rw [zy19 (show b.length<=2+4*k by omega)] at zer;simp only [zco,zy4] at zer;(conv=>whnf);rw [zer]
   rfl
end Chk
namespace Chk
theorem zmn:∀ l:List UInt8,(zco l).1.length<=l.length
 | a::b::c::d::r=>by
  have:=zmn r;simp only [zco];split<;>simp<;>omega
 | []=>by simp [zco]
 | [_]=>by simp [zco]
 | [_,_]=>by simp [zco]
 | [_,_,_]=>by simp [zco]
theorem zxt (kind:Int) (b:List UInt8):(zcz kind b).1.zas.length<=b.length/\(zcz kind b).1.zbr.length<=b.length:=by
 have h1:=zmn (b.drop 2);have h2:=zlc (b.drop 4);have h3:(b.drop 2).length<=b.length:=by simp
 have h4:(b.drop 4).length<=b.length:=by simp
 unfold zcz
 (repeat' split)<;>constructor<;>first | (simp [no];done) | (dsimp only [no];omega)
def parse (b:List UInt8):Chunk×Int×Int :=
 if b.length<2\/b.length<2+(b[1]?.getD 0).toNat then (no,0,8) else
 if (b[0]?.getD 0).toNat<1\/(b[0]?.getD 0).toNat>3 then (no,0,1) else
 if (zcz (b[0]?.getD 0).toNat ((b.drop 2).take (b[1]?.getD 0).toNat)).2=false then (no,0,2) else
 if zdq (zcz (b[0]?.getD 0).toNat ((b.drop 2).take (b[1]?.getD 0).toNat)).1≠0 then (no,0,zdq (zcz (b[0]?.getD 0).toNat ((b.drop 2).take (b[1]?.getD 0).toNat)).1) else
 ((zcz (b[0]?.getD 0).toNat ((b.drop 2).take (b[1]?.getD 0).toNat)).1,2+(b[1]?.getD 0).toNat,0)
theorem zha {rows:List (List PV)} {o n o' n':Nat} {K:List (List PV)->Prop} (ho:o=o') (hn:n=n') (h:zre rows o' n' K):zre rows o n K:=by subst ho;subst hn;exact h
theorem yqs (b:List UInt8) (hb:b.length<2 ^ 39):zan Tryz.prog 178 [zxw b] zad (.tup [(parse b).1.hv,i64 (parse b).2.1,i64 (parse b).2.2]) zad:=by
 refine zal mixed Tryz.func178 zz4 ?_;have hl:(b.map zcp).length=b.length:=by simp
 have hb1:=(b[1]?.getD 0).toNat_lt;(conv=>whnf);refine zaf (fun c1=>?_) (fun c1=>?_)
 . have c1:(b.length:Int)<2:=by simpa using c1
   rw [parse,zy1 (.inl (by omega))];(conv=>whnf)
   rfl
 have c1:¬ (b.length:Int)<2:=by simpa using c1
 (conv=>whnf);refine zaq (z:=((b.map zcp).length:Int)-2) (zbu zz0 zz0) (zw ?_);refine ziq 1 rfl zz0 (zw ?_);refine zaq (zlo _) (zw ?_);refine zaf (fun c2=>?_) (fun c2=>?_)
 . have c2:((b.map zcp).length:Int)-2<(b[1]?.getD 0).toNat:=zy24 c2
   rw [parse,zy1 (.inr (by omega))];(conv=>whnf)
   rfl
 have c2:¬ ((b.map zcp).length:Int)-2<(b[1]?.getD 0).toNat:=zy32 c2;rw [parse,zy0 (by omega)];(conv=>whnf);refine ziq 0 rfl zz0 (zw ?_);refine zaf (fun c3=>?_) (fun c3=>?_)
 . have c3:((b[0]?.getD 0).toNat:Int)<1:=zy24 c3
   rw [zy1 (.inl (by omega))];(conv=>whnf)
   rfl
 have c3:¬ ((b[0]?.getD 0).toNat:Int)<1:=zy32 c3;(conv=>whnf);refine ziq 0 rfl zz0 (zw ?_);refine zaf (fun c4=>?_) (fun c4=>?_)
 . have c4:((b[0]?.getD 0).toNat:Int)>3:=zy24 c4
   rw [zy1 (.inr (by omega))];(conv=>whnf)
   rfl
 have c4:¬ ((b[0]?.getD 0).toNat:Int)>3:=zy32 c4;rw [zy0 (by omega)];(conv=>whnf);refine ziq 1 rfl zz0 (zw ?_);refine zaq (zlo _) (zw ?_);refine zaq (z:=2+((b[1]?.getD 0).toNat:Int)) (zbu zz0 zz0) ?_;conv=>whnf
 refine ziq 0 rfl zz0 (zw ?_);refine zaq (zlo _) (zw ?_);refine zaa zz0 (zw ?_);refine zha (o':=2) (n':=(b[1]?.getD 0).toNat) rfl zz0 ?_;refine zgc (l:=b) zz0 ?_;have hlen:((b.drop 2).take (b[1]?.getD 0).toNat).length<=256:=by simp;omega
 obtain ⟨l1,l2⟩:=zxt (b[0]?.getD 0).toNat ((b.drop 2).take (b[1]?.getD 0).toNat);generalize hs:(b.drop 2).take (b[1]?.getD 0).toNat=s at hlen l1 l2 ⊢;(conv=>whnf);refine zdc (zw ?_);refine ⟨_,ywm (b[0]?.getD 0).toNat s zz0,rfl,?_⟩;generalize zcz (b[0]?.getD 0).toNat s=p at l1 l2 ⊢;obtain ⟨c,ok⟩:=p;dsimp only at l1 l2;(conv=>whnf);refine zaw ?_ ?_
 . kernel_rfl
 (conv=>whnf);cases ok with
 | false =>
  conv=>whnf
  rfl
 | true =>
  rw [zy0 (by simp)];(conv=>whnf);refine zbg (zw ?_);refine ⟨_,zzq c zz0 zz0,rfl,zw ?_⟩;refine zaf (fun c5=>?_) (fun c5=>?_)
  . have c5:¬ zdq c=0:=by simpa using c5
    rw [zy1 c5];(conv=>whnf)
    rfl
  . have c5:zdq c=0:=by simpa using c5
    rw [zy0 (fun h=>h c5)];(conv=>whnf)
    rfl
def one (l:List UInt8) (ok:Bool):Int×List UInt8×Bool:=match l with
 | []=>(0,[],false)
 | x::r=>(x.toNat,r,ok)
def two (l:List UInt8) (ok:Bool):Int×List UInt8×Bool:=match l with
 | x::y::r=>(zin x y,r,ok)
 | [x]=>(x.toNat*256,[],false)
 | []=>(0,[],false)
def rd (l:List UInt8) (ok:Bool):zai:=.live (.cells 233 [zxw l,zbj ok])
theorem znj (l:List UInt8) (ok:Bool):zan Tryz.prog 192 [.ptr 1000 0] (lk .free [(1000,rd l ok)]) (i64 (one l ok).1) (lk .free [(1000,rd (one l ok).2.1 (one l ok).2.2)]):=by
 refine zap mixed Tryz.func192 zz4 [1000] (fun i=>zbq i) ?_;cases l with
 | nil =>
  (conv=>whnf);exact yy88
 | cons x r =>
  simp only [one];(conv=>whnf);refine ziq (b:=x::r) 0 rfl zz5 (zw ?_);refine zaq (zlo x) (zw ?_);refine sOm ?_;refine zfh (l:=x::r) zz3 ?_;(conv=>whnf);exact yy88
theorem zlg (l:List UInt8) (ok:Bool):zan Tryz.prog 191 [.ptr 1000 0] (lk .free [(1000,rd l ok)]) (i64 (two l ok).1) (lk .free [(1000,rd (two l ok).2.1 (two l ok).2.2)]):=by
 refine zap mixed Tryz.func191 zz4 [1000] (fun i=>zbq i) ?_;have h1:∀ x y:UInt8,(x.toNat:Int)*256+y.toNat<=70000/\0<=(x.toNat:Int)*256+y.toNat:=by
  intro x y;have:=x.toNat_lt;have:=y.toNat_lt;omega
 (conv=>whnf);refine zae [] [(1000,1000)] [] (zw ?_);refine ⟨_,_,_,_,znj l ok,⟨rfl,rfl,rfl,⟨zz1,trivial⟩,trivial,rfl,rfl,rfl⟩,?_⟩;(conv=>whnf);have e1:W ((one l ok).1*256)=(one l ok).1*256:=by
  cases l with
  | nil=>rfl
  | cons x r=>have:=h1 x 0;exact zbu (by simp only [one];omega) (by simp only [one];omega)
 have e1':W (256*(one l ok).1)=256*(one l ok).1:=by rw [Int.mul_comm];exact e1
 refine zaq e1' (zw ?_);refine zae [] [(1000,1000)] [] (zw ?_);refine ⟨_,_,_,_,znj (one l ok).2.1 (one l ok).2.2,⟨rfl,rfl,rfl,⟨zz1,trivial⟩,trivial,rfl,rfl,rfl⟩,?_⟩;(conv=>whnf);have e2:256*(one l ok).1+(one (one l ok).2.1 (one l ok).2.2).1=(two l ok).1:=by
  cases l with
  | nil=>rfl
  | cons x r=>cases r with
   | nil=>simp only [one,two];omega
   | cons y r=>simp only [one,two,zin];omega
 have e3:W (two l ok).1=(two l ok).1:=by
  cases l with
  | nil=>rfl
  | cons x r=>cases r with
   | nil=>have:=h1 x 0;exact zbu (by simp only [two];omega) (by simp only [two];omega)
   | cons y r=>have:=h1 x y;exact zbu (by simp only [two,zin];omega) (by simp only [two,zin];omega)
 have e4:(one (one l ok).2.1 (one l ok).2.2).2=(two l ok).2:=by
  cases l with
  | nil=>rfl
  | cons x r=>cases r<;>rfl
 refine zaq (z:=256*(one l ok).1+(one (one l ok).2.1 (one l ok).2.2).1) (by rw [e2];exact e3) (zw ?_);rw [<- e4,<- e2];exact yy88
end Chk
namespace Chk
theorem ywh:∀ l:List UInt8,l=[]\/(∃ a,l=[a])\/(∃ a b,l=[a,b])\/(∃ a b c,l=[a,b,c])\/(∃ a b c d,l=[a,b,c,d])\/(∃ a b c d e,l=[a,b,c,d,e])\/(∃ a b c d e f,l=[a,b,c,d,e,f])\/∃ a b c d e f g r,l=a::b::c::d::e::f::g::r
 | []=>by simp
 | [a]=>by simp
 | [a,b]=>by simp
 | [a,b,c]=>by simp
 | [a,b,c,d]=>by simp
 | [a,b,c,d,e]=>by simp
 | [a,b,c,d,e,f]=>by simp
 | a::b::c::d::e::f::g::r=>by simp
theorem yic {l:List UInt8} {ok:Bool} (h:(two l ok).2.2=true):ok=true/\∃ a b,l=a::b::(two l ok).2.1/\(two l ok).1=zin a b:=by
 match l,h with
 | x::y::r,h=>exact ⟨h,x,y,rfl,rfl⟩
 | [x],h=>cases h
 | [],h=>cases h
theorem zms (l:List UInt8) (ok:Bool):(two l ok).2.1.length<=l.length-2:=by
 match l with
 | x::y::r=>simp [two]
 | [x]=>simp [two]
 | []=>simp [two]
theorem zwu {l:List UInt8} {ok:Bool} (h:(two l ok).2.2=false):ok=false\/l.length<2:=by
 match l,h with
 | x::y::r,h=>exact .inl h
 | [x],h=>exact .inr zz5
 | [],h=>exact .inr zz5
theorem xih {s:List UInt8} (h:s.length<4\/s.length % 4≠0):(zcz 2 s).2=false:=by
 unfold zcz
 (repeat' split)<;>first | rfl | (exfalso;omega)
structure I2 (s:List UInt8) (tag room:Int) (l:List UInt8) (ok:Bool) (acc:List Span):Prop where
 good:ok=true->4<=s.length/\acc++zeh l=zeh (s.drop 4)/\l.length % 4=s.length % 4/\tag=zpc s 0/\room=zpc s 2
 bad:ok=false->(zcz 2 s).2=false
 len:acc.length+l.length<=256
theorem I2.start {s:List UInt8} (hs:s.length<=256):I2 s (two s true).1 (two (two s true).2.1 (two s true).2.2).1 (two (two s true).2.1 (two s true).2.2).2.1 (two (two s true).2.1 (two s true).2.2).2.2 []:=by
 refine ⟨fun h=>?_,fun h=>?_,?_⟩
 . obtain ⟨h1,c,d,h2,h3⟩:=yic h
   obtain ⟨_,a,b,h4,h5⟩:=yic h1;generalize (two (two s true).2.1 (two s true).2.2).2.1=r at *
   rw [h2] at h4;subst h4;refine ⟨by simp,by simp,by simp;omega,h5.trans rfl,h3.trans rfl⟩
 . refine xih ?_
   rcases zwu h with h1 | h1
   . rcases zwu h1 with h2 | h2
     . cases h2
     . left;omega
   . have:s.length<=(two s true).2.1.length+2:=by
      match s with
      | x::y::r=>simp [two]
      | [x]=>simp
      | []=>simp
     left;omega
 . have h1:=zms s true
   have h2:=zms (two s true).2.1 (two s true).2.2;simp only [zy12];omega
theorem I2.next {s l:List UInt8} {tag room:Int} {ok:Bool} {acc:List Span} (h:I2 s tag room l ok acc) (hl:0<l.length) :
 I2 s tag room (two (two l ok).2.1 (two l ok).2.2).2.1 (two (two l ok).2.1 (two l ok).2.2).2.2 (acc++[⟨(two l ok).1,(two (two l ok).2.1 (two l ok).2.2).1⟩]):=by
 have g1:=zms l ok;have g2:=zms (two l ok).2.1 (two l ok).2.2;refine ⟨fun h2=>?_,fun h2=>?_,?_⟩
 . obtain ⟨h3,c,d,h4,h5⟩:=yic h2
   obtain ⟨h6,a,b,h7,h8⟩:=yic h3;obtain ⟨i1,i2,i3,i4,i5⟩:=h.good h6;refine ⟨i1,?_,?_,i4,i5⟩
   . rw [<- i2,h8,h5,zy27]
     congr 1;generalize (two (two l ok).2.1 (two l ok).2.2).2.1=r at *
     rw [h7,h4]
     rfl
   . rw [<- i3]
     generalize (two (two l ok).2.1 (two l ok).2.2).2.1=r at *
     rw [h7,h4];simp;omega
 . cases hok:ok with
   | false=>exact h.bad hok
   | true =>
    obtain ⟨i1,i2,i3,i4,i5⟩:=h.good hok;refine xih (.inr ?_);rw [<- i3];have hlen:l.length<4:=by
     rcases zwu h2 with h3 | h3
     . rcases zwu h3 with h4 | h4
       . rw [hok] at h4;cases h4
       . omega
     . have:l.length<=(two l ok).2.1.length+2:=by
        match l with
        | x::y::r=>simp [two]
        | [x]=>simp
        | []=>simp
       omega
    omega
 . have:=h.len
   simp only [zy8,zy6,zy12];omega
theorem I2.done {s:List UInt8} {tag room:Int} {acc:List Span} (h:I2 s tag room [] true acc):zcz 2 s=(⟨2,tag,0,0,0,false,false,[],acc,room,[]⟩,true):=by
 obtain ⟨i1,i2,i3,i4,i5⟩:=h.good rfl;simp only [zeh,zy4] at i2;unfold zcz;rw [zy0 (by omega),zy0 (by decide),zy1 rfl,zy0 (by simp at i3;omega),i2,i4,i5]
 rfl
theorem xfh {kind:Int} {s:List UInt8} (k1:¬ kind=1) (k2:¬ kind=2) (h:s.length<2\/s.length % 4≠2\/(zco (s.drop 2)).2=false):(zcz kind s).2=false:=by
 unfold zcz;rcases h with h | h | h
 . (repeat' split)<;>first | rfl | (exfalso;omega)
 . (repeat' split)<;>first | rfl | (exfalso;omega)
 . (repeat' split)<;>first | rfl | (exfalso;omega) | exact h
theorem yva (l:List UInt8) (ok:Bool):(one l ok).2.1.length=l.length-1:=by
 match l with
 | x::r=>simp [one]
 | []=>simp [one]
structure I3 (kind:Int) (s:List UInt8) (tag:Int) (l:List UInt8) (ok:Bool) (acc:List zdw):Prop where
 good:ok=true->2<=s.length/\zco (s.drop 2)=(acc++(zco l).1,(zco l).2)/\l.length % 4=(s.length-2) % 4/\tag=zpc s 0
 bad:ok=false->(zcz kind s).2=false
 len:acc.length+l.length<=256
theorem I3.start {kind:Int} {s:List UInt8} (k1:¬ kind=1) (k2:¬ kind=2) (hs:s.length<=256):I3 kind s (two s true).1 (two s true).2.1 (two s true).2.2 []:=by
 refine ⟨fun h=>?_,fun h=>?_,?_⟩
 . obtain ⟨_,a,b,h4,h5⟩:=yic h
   generalize (two s true).2.1=r at *
   subst h4;exact ⟨by simp,by simp,by simp,h5.trans rfl⟩
 . refine xfh k1 k2 ?_
   rcases zwu h with h1 | h1
   . cases h1
   . exact .inl h1
 . have h1:=zms s true
   simp only [zy12];omega
theorem I3.less {l:List UInt8} {ok:Bool} (hl:0<l.length):(two (one (one l ok).2.1 (one l ok).2.2).2.1 (one (one l ok).2.1 (one l ok).2.2).2.2).2.1.length<l.length:=by
 have h1:=zms (one (one l ok).2.1 (one l ok).2.2).2.1 (one (one l ok).2.1 (one l ok).2.2).2.2;have h2:=yva l ok;have h3:=yva (one l ok).2.1 (one l ok).2.2;omega
theorem I3.next {kind:Int} {s l:List UInt8} {tag:Int} {ok:Bool} {acc:List zdw} (h:I3 kind s tag l ok acc) (k1:¬ kind=1) (k2:¬ kind=2) (hl:0<l.length) :
 ((one (one l ok).2.1 (one l ok).2.2).1>1->I3 kind s tag (two (one (one l ok).2.1 (one l ok).2.2).2.1 (one (one l ok).2.1 (one l ok).2.2).2.2).2.1 false (acc++[⟨(one l ok).1,(two (one (one l ok).2.1 (one l ok).2.2).2.1 (one (one l ok).2.1 (one l ok).2.2).2.2).1,(one (one l ok).2.1 (one l ok).2.2).1==1⟩])) /\
 (¬ (one (one l ok).2.1 (one l ok).2.2).1>1->I3 kind s tag (two (one (one l ok).2.1 (one l ok).2.2).2.1 (one (one l ok).2.1 (one l ok).2.2).2.2).2.1 (two (one (one l ok).2.1 (one l ok).2.2).2.1 (one (one l ok).2.1 (one l ok).2.2).2.2).2.2
  (acc++[⟨(one l ok).1,(two (one (one l ok).2.1 (one l ok).2.2).2.1 (one (one l ok).2.1 (one l ok).2.2).2.2).1,(one (one l ok).2.1 (one l ok).2.2).1==1⟩])):=by
 have hlen:=h.len;have hless:=I3.less (ok:=ok) hl
 match l,hl with
 | [x],_ =>
  have hbad:(zcz kind s).2=false:=by
   cases hok:ok with
   | false=>exact h.bad hok
   | true =>
    obtain ⟨i1,i2,i3,i4⟩:=h.good hok;exact xfh k1 k2 (.inr (.inl (by simp at i3;omega)))
  refine ⟨fun h2=>absurd h2 (by simp [one]),fun _=>⟨fun h2=>(by cases h2),fun _=>hbad,by simp [one,two] at hlen ⊢;omega⟩⟩
 | [x,y],_ =>
  exact yy48
 | [x,y,z],_ =>
  exact yy48
 | x::y::z::w::r,_ =>
  simp only [one,two];have hbeq:((y.toNat:Int)==1)=(y.toNat==1):=by
   rcases Nat.decEq y.toNat 1 with h | h
   . rw [show ((y.toNat:Int)==1)=false from by simpa using (by omega:¬ (y.toNat:Int)=1),show (y.toNat==1)=false from by simpa using h]
   . rw [h];rfl
  refine ⟨fun h2=>⟨fun h3=>(by cases h3),fun _=>?_,by simp at hlen ⊢;omega⟩,fun h2=>⟨fun hok=>?_,fun hok=>h.bad hok,by simp at hlen ⊢;omega⟩⟩
  . cases hok:ok with
    | false=>exact h.bad hok
    | true =>
     obtain ⟨i1,i2,i3,i4⟩:=h.good hok;refine xfh k1 k2 (.inr (.inr ?_));rw [i2];show (zco (x::y::z::w::r)).2=false;rw [zco,zy1 (by omega)]
  . obtain ⟨i1,i2,i3,i4⟩:=h.good hok
    refine ⟨i1,?_,by rw [<- i3];simp only [zy6];omega,i4⟩;rw [i2,zco,zy0 (by omega),hbeq];simp
theorem I3.done {kind:Int} {s:List UInt8} {tag:Int} {acc:List zdw} (k1:¬ kind=1) (k2:¬ kind=2) (h:I3 kind s tag [] true acc):zcz kind s=(⟨kind,tag,0,0,0,false,false,[],[],0,acc⟩,true):=by
 obtain ⟨i1,i2,i3,i4⟩:=h.good rfl;simp only [zco,zy4] at i2;unfold zcz;rw [zy0 (by omega),zy0 k1,zy0 k2,zy0 (by simp at i3;omega),i2,i4]
 rfl
theorem yla (b:List UInt8) (hb:b.length<2 ^ 39):zan Tryz.prog 172 [zxw b] zad (.tup [(parse b).1.hv,i64 (parse b).2.1,i64 (parse b).2.2]) zad:=by
 refine zal mixed Tryz.func172 zz4 ?_;have hl:(b.map zcp).length=b.length:=by simp
 have hb1:=(b[1]?.getD 0).toNat_lt;(conv=>whnf);refine zaf (fun c1=>?_) (fun c1=>?_)
 . have c1:(b.length:Int)<2:=by simpa using c1
   rw [parse,zy1 (.inl (by omega))];(conv=>whnf)
   rfl
 have c1:¬ (b.length:Int)<2:=by simpa using c1
 (conv=>whnf);refine ziq 1 rfl zz0 (zw ?_);refine zaq (zlo _) (zw ?_);refine zaq (z:=((b.map zcp).length:Int)-2) (zbu zz0 zz0) (zw ?_);refine zaf (fun c2=>?_) (fun c2=>?_)
 . have c2:((b[1]?.getD 0).toNat:Int)>((b.map zcp).length:Int)-2:=zy24 c2
   rw [parse,zy1 (.inr (by omega))];(conv=>whnf)
   rfl
 have c2:¬ ((b[1]?.getD 0).toNat:Int)>((b.map zcp).length:Int)-2:=zy32 c2;rw [parse,zy0 (by omega)];(conv=>whnf);refine ziq 0 rfl zz0 (zw ?_);refine zaf (fun c3=>?_) (fun c3=>?_)
 . have c3:((b[0]?.getD 0).toNat:Int)<1:=zy24 c3
   rw [zy1 (.inl (by omega))];(conv=>whnf)
   rfl
 have c3:¬ ((b[0]?.getD 0).toNat:Int)<1:=zy32 c3;(conv=>whnf);refine ziq 0 rfl zz0 (zw ?_);refine zaf (fun c4=>?_) (fun c4=>?_)
 . have c4:((b[0]?.getD 0).toNat:Int)>3:=zy24 c4
   rw [zy1 (.inr (by omega))];(conv=>whnf)
   rfl
 have c4:¬ ((b[0]?.getD 0).toNat:Int)>3:=zy32 c4;rw [zy0 (by omega)];(conv=>whnf);refine ziq 1 rfl zz0 (zw ?_);refine zaq (zlo _) (zw ?_);refine zaq (z:=2+((b[1]?.getD 0).toNat:Int)) (zbu zz0 zz0) ?_;conv=>whnf
 refine zaa zz0 (zw ?_);refine zha (o':=2) (n':=(b[1]?.getD 0).toNat) rfl zz0 ?_;refine zgc (l:=b) zz0 ?_;have hlen:((b.drop 2).take (b[1]?.getD 0).toNat).length<=256:=by simp;omega
 generalize zre:(b.drop 2).take (b[1]?.getD 0).toNat=s at hlen ⊢;(conv=>whnf);refine ziq 0 rfl zz0 (zw ?_);refine zaq (zlo _) (zw ?_);refine zae [] [(1000,46)] [] (zw ?_);refine ⟨_,_,_,_,zlg s true,⟨rfl,rfl,rfl,⟨zz1,trivial⟩,trivial,rfl,rfl,rfl⟩,?_⟩;(conv=>whnf);refine zaw ?_ ?_
 . kernel_rfl
 (conv=>whnf);generalize ((b[0]?.getD 0).toNat:Int)=kind at *
 refine zhs.go (zw ?_);refine zaf (fun k1=>?_) (fun k1=>?_)
 . have k1:kind=1:=by simpa using k1
   subst k1;by_cases h7:s.length<7
   . have hbad:(zcz 1 s).2=false:=by
      unfold zcz;split
      . rfl
      . rw [zy1 rfl,zy1 (.inl h7)]
     rw [zy1 hbad];rcases ywh s with rfl | ⟨x0,rfl⟩ | ⟨x0,x1,rfl⟩ | ⟨x0,x1,x2,rfl⟩ | ⟨x0,x1,x2,x3,rfl⟩ | ⟨x0,x1,x2,x3,x4,rfl⟩ | ⟨x0,x1,x2,x3,x4,x5,rfl⟩ | ⟨x0,x1,x2,x3,x4,x5,x6,r,rfl⟩
     case inr.inr.inr.inr.inr.inr.inr=>simp at h7;omega
     all_goals
      conv=>whnf
      (repeat' (first | (refine zce ?_;conv=>whnf) | (refine zaa ?_ ?_;(first | kernel_rfl | decide);conv=>whnf) | (refine zaw ?_ ?_;kernel_rfl;conv=>whnf) | (refine zhs.go ?_;conv=>whnf) | (refine zae [] [(1000,46)]   []  ?_;(conv=>whnf);refine ⟨_,_,_,_, znj _ _,⟨rfl,rfl,rfl,⟨zz1,trivial⟩,trivial,rfl,rfl,rfl⟩,?_⟩;conv=>whnf) | (refine zae [] [(1000,46)]   []  ?_;(conv=>whnf);refine ⟨_,_,_,_, zlg _ _,⟨rfl,rfl,rfl,⟨zz1,trivial⟩,trivial,rfl,rfl,rfl⟩,?_⟩;conv=>whnf) | (refine zaf (fun h=>?_) (fun h=>?_)<;>conv=>whnf)))
     all_goals first | rfl | (refine zaa (c:=(([]:List (List PV)).length+(([]:List UInt8).map zcp).length)*1<=140737488355328) zz4 ?_;(conv=>whnf);rfl)
   . rcases ywh s with rfl | ⟨x0,rfl⟩ | ⟨x0,x1,rfl⟩ | ⟨x0,x1,x2,rfl⟩ | ⟨x0,x1,x2,x3,rfl⟩ | ⟨x0,x1,x2,x3,x4,rfl⟩ | ⟨x0,x1,x2,x3,x4,x5,rfl⟩ | ⟨x0,x1,x2,x3,x4,x5,x6,r,rfl⟩
     case inr.inr.inr.inr.inr.inr.inr =>
      conv=>whnf
      (repeat' (first | (refine zce ?_;conv=>whnf) | (refine zaa ?_ ?_;(first | kernel_rfl | decide);conv=>whnf) | (refine zaw ?_ ?_;kernel_rfl;conv=>whnf) | (refine zhs.go ?_;conv=>whnf) | (refine zae [] [(1000,46)]   []  ?_;(conv=>whnf);refine ⟨_,_,_,_, znj _ _,⟨rfl,rfl,rfl,⟨zz1,trivial⟩,trivial,rfl,rfl,rfl⟩,?_⟩;conv=>whnf) | (refine zae [] [(1000,46)]   []  ?_;(conv=>whnf);refine ⟨_,_,_,_, zlg _ _,⟨rfl,rfl,rfl,⟨zz1,trivial⟩,trivial,rfl,rfl,rfl⟩,?_⟩;conv=>whnf) | (refine zaf (fun h=>?_) (fun h=>?_)<;>conv=>whnf)))
      all_goals
       refine zaa (c:=(([]:List (List PV)).length+(r.map zcp).length)*1<=140737488355328) (by simp at hlen ⊢;omega) ?_;(conv=>whnf)
      . rename_i h
        have h:(x3.toNat:Int)>3:=zy24 h;have hbad:(zcz 1 (x0::x1::x2::x3::x4::x5::x6::r)).2=false:=by
         unfold zcz;rw [zy0 (by simp),zy1 rfl,zy1 (.inr (by simp;omega))]
        rw [zy1 hbad]
        rfl
      . rename_i h
        have h:¬ (x3.toNat:Int)>3:=zy32 h;have hbody:zcz 1 (x0::x1::x2::x3::x4::x5::x6::r)=(⟨1,zin x0 x1,x2.toNat,zin x4 x5,x6.toNat,(x3.toNat:Int).tmod 2==1,W ((x3.toNat:Int).tdiv 2)==1,r,[],0,[]⟩,true):=by
         unfold zcz;rw [zy0 (by simp),zy1 rfl,zy0 (by simp;omega)];have e1:((x3.toNat:Int).tmod 2==1)=(x3.toNat % 2 != 0):=by
          generalize x3.toNat=n at h ⊢;have:n<=3:=by omega
          match n,this with
          | 0,_=>decide
          | 1,_=>decide
          | 2,_=>decide
          | 3,_=>decide
         have e2:(W ((x3.toNat:Int).tdiv 2)==1)=(x3.toNat / 2*2 != 0):=by
          generalize x3.toNat=n at h ⊢;have:n<=3:=by omega
          match n,this with
          | 0,_=>decide
          | 1,_=>decide
          | 2,_=>decide
          | 3,_=>decide
         rw [e1,e2]
         rfl
        rw [hbody];refine zbg (zw ?_);refine ⟨_,zhe ⟨1,zin x0 x1,x2.toNat,zin x4 x5,x6.toNat,(x3.toNat:Int).tmod 2==1,W ((x3.toNat:Int).tdiv 2)==1,r,[],0,[]⟩ zz5 zz5,rfl,?_⟩;rw [zy0 (by simp)];generalize hw:zdq _=w;exact yy42
     all_goals (exfalso;simp at h7)
 . have k1:¬ kind=1:=by simpa using k1
   (conv=>whnf);obtain ⟨T,hT⟩:∃ T,T=two s true:=⟨_,rfl⟩
   rw [<- hT];refine zaf (fun k2=>?_) (fun k2=>?_)
   . have k2:kind=2:=by simpa using k2
     subst k2;(conv=>whnf);refine zae [] [(1000,46)] [] (zw ?_);refine ⟨_,_,_,_,zlg T.2.1 T.2.2,⟨rfl,rfl,rfl,⟨zz1,trivial⟩,trivial,rfl,rfl,rfl⟩,?_⟩;obtain ⟨R,hR⟩:∃ R,R=two T.2.1 T.2.2:=⟨_,rfl⟩
     rw [<- hR];have hi:=I2.start hlen;rw [<- hT,<- hR] at hi;clear hT hR;(conv=>whnf);refine ⟨{x:List UInt8×Bool×List Span // I2 s T.1 R.1 x.1 x.2.1 x.2.2},fun | ⟨(l,ok,acc),_⟩=>hs 152 [(2,.ptr 2 0),(5,i64 (2+(b[1]?.getD 0).toNat)),(6,.ptr 46 0),(7,.ptr 7 0)] [(2,.live (.cells 61 yli)),(46,rd l ok),(7,.live (.cells 61 [i64 2,i64 T.1,i64 0,i64 0,i64 0,zbj false,zbj false,zee,.own 900,i64 R.1,zee])),(900,.live (.row 199 2 (acc.map Span.row)))],fun x=>x.1.1.length,⟨(R.2.1,R.2.2,[]),hi⟩,?_,?_⟩
     . exact zcl [(2,some 2),(46,some 46),(7,some 7),(900,none)] rfl rfl rfl rfl ⟨⟨rfl,rfl⟩,⟨rfl,rfl⟩,⟨rfl,rfl⟩,⟨rfl,rfl⟩,trivial⟩ ⟨⟨rfl,.inl ⟨2,rfl,rfl⟩⟩,⟨rfl,.inl ⟨46,rfl,rfl⟩⟩,⟨rfl,.inl ⟨7,rfl,rfl⟩⟩,⟨rfl,.inr ⟨rfl,rfl⟩⟩,trivial⟩
     rintro ⟨⟨l,ok,acc⟩,hinv⟩;dsimp only at hinv;(conv=>whnf);refine zaf (fun c=>?_) (fun c=>?_)
     . have hl0:0<l.length:=by
        have:=zy24 c;rw [zy2] at this;omega
       (conv=>whnf);refine zae [] [(1000,46)] [] (zw ?_);refine ⟨_,_,_,_,zlg l ok,⟨rfl,rfl,rfl,⟨zz1,trivial⟩,trivial,rfl,rfl,rfl⟩,?_⟩;(conv=>whnf);refine zae [] [(1000,46)] [] (zw ?_);refine ⟨_,_,_,_,zlg (two l ok).2.1 (two l ok).2.2,⟨rfl,rfl,rfl,⟨zz1,trivial⟩,trivial,rfl,rfl,rfl⟩,?_⟩;(conv=>whnf);refine zaa (c:=((acc.map Span.row).length+1)*16<=140737488355328) zz111 (zw ?_);refine zaw ?_ ?_
       . kernel_rfl
       (conv=>whnf);have g1:=zms l ok;have g2:=zms (two l ok).2.1 (two l ok).2.2;refine ⟨⟨((two (two l ok).2.1 (two l ok).2.2).2.1,(two (two l ok).2.1 (two l ok).2.2).2.2,acc++[⟨(two l ok).1,(two (two l ok).2.1 (two l ok).2.2).1⟩]),hinv.next hl0⟩,zcl [(2,some 2),(46,some 46),(7,some 7),(900,some 136)] rfl rfl rfl rfl ⟨⟨rfl,rfl⟩,⟨rfl,rfl⟩,⟨rfl,rfl⟩,⟨rfl,rfl⟩,trivial⟩ ⟨⟨rfl,.inl ⟨2,rfl,rfl⟩⟩,⟨rfl,.inl ⟨46,rfl,rfl⟩⟩,⟨rfl,.inl ⟨7,rfl,rfl⟩⟩,⟨rfl,.inl ⟨136,rfl,?_⟩⟩,trivial⟩,by dsimp only;omega⟩;show zai.live (.row _ 2 (acc.map Span.row++[Span.row ⟨(two l ok).1,(two (two l ok).2.1 (two l ok).2.2).1⟩]))=zai.live (.row _ 2 (List.map Span.row (acc++[⟨(two l ok).1,(two (two l ok).2.1 (two l ok).2.2).1⟩])));rw [zy33]
       rfl
     . have hl0:l=[]:=by
        have:=zy32 c;rw [zy2] at this;exact zy14 zz0
       subst hl0;cases ok with
       | false =>
        have hbad:=hinv.bad rfl;(conv=>whnf);rw [zy1 hbad]
        rfl
       | true =>
        have hbody:=hinv.done;(conv=>whnf);refine zbg (zw ?_);refine ⟨_,zhe ⟨2,T.1,0,0,0,false,false,[],acc,R.1,[]⟩ zz111 zz5,rfl,?_⟩;rw [hbody,zy0 (by simp)];generalize hw:zdq _=w;exact yy42
   . have k2:¬ kind=2:=by simpa using k2
     have hi:=I3.start k1 k2 hlen;rw [<- hT] at hi;clear hT;(conv=>whnf);refine ⟨{x:List UInt8×Bool×List zdw // I3 kind s T.1 x.1 x.2.1 x.2.2},fun | ⟨(l,ok,acc),_⟩=>hs 152 [(2,.ptr 2 0),(5,i64 (2+(b[1]?.getD 0).toNat)),(6,.ptr 46 0),(7,.ptr 7 0)] [(2,.live (.cells 61 yli)),(46,rd l ok),(7,.live (.cells 61 [i64 kind,i64 T.1,i64 0,i64 0,i64 0,zbj false,zbj false,zee,zee,i64 0,.own 900])),(900,.live (.row 180 3 (acc.map zdw.row)))],fun x=>x.1.1.length,⟨(T.2.1,T.2.2,[]),hi⟩,?_,?_⟩
     . exact zcl [(2,some 2),(46,some 46),(7,some 7),(900,none)] rfl rfl rfl rfl ⟨⟨rfl,rfl⟩,⟨rfl,rfl⟩,⟨rfl,rfl⟩,⟨rfl,rfl⟩,trivial⟩ ⟨⟨rfl,.inl ⟨2,rfl,rfl⟩⟩,⟨rfl,.inl ⟨46,rfl,rfl⟩⟩,⟨rfl,.inl ⟨7,rfl,rfl⟩⟩,⟨rfl,.inr ⟨rfl,rfl⟩⟩,trivial⟩
     rintro ⟨⟨l,ok,acc⟩,hinv⟩;dsimp only at hinv;(conv=>whnf);refine zaf (fun c=>?_) (fun c=>?_)
     . have hl0:0<l.length:=by
        have:=zy24 c;rw [zy2] at this;omega
       (conv=>whnf);refine zae [] [(1000,46)] [] (zw ?_);refine ⟨_,_,_,_,znj l ok,⟨rfl,rfl,rfl,⟨zz1,trivial⟩,trivial,rfl,rfl,rfl⟩,?_⟩;obtain ⟨A,hA⟩:∃ A,A=one l ok:=⟨_,rfl⟩
       rw [<- hA];(conv=>whnf);refine zae [] [(1000,46)] [] (zw ?_);refine ⟨_,_,_,_,znj A.2.1 A.2.2,⟨rfl,rfl,rfl,⟨zz1,trivial⟩,trivial,rfl,rfl,rfl⟩,?_⟩;obtain ⟨B,hB⟩:∃ B,B=one A.2.1 A.2.2:=⟨_,rfl⟩
       rw [<- hB];(conv=>whnf);refine zae [] [(1000,46)] [] (zw ?_);refine ⟨_,_,_,_,zlg B.2.1 B.2.2,⟨rfl,rfl,rfl,⟨zz1,trivial⟩,trivial,rfl,rfl,rfl⟩,?_⟩;obtain ⟨D,hD⟩:∃ D,D=two B.2.1 B.2.2:=⟨_,rfl⟩
       rw [<- hD];(conv=>whnf);refine zhs.go (zw ?_);refine zaf (fun c5=>?_) (fun c5=>?_)
       . have c5:=zy24 c5
         have hn:=hinv.next k1 k2 hl0;rw [<- hA,<- hB,<- hD] at hn;have hn:=hn.1 c5;have hdl:D.2.1.length<l.length:=by rw [hD,hB,hA];exact I3.less hl0
         (conv=>whnf);refine zaa (c:=((acc.map zdw.row).length+1)*24<=140737488355328) zz111 (zw ?_);refine ⟨⟨(D.2.1,false,acc++[⟨A.1,D.1,B.1==1⟩]),hn⟩,zcl [(2,some 2),(46,some 46),(7,some 7),(900,some 82)] rfl rfl rfl rfl ⟨⟨rfl,rfl⟩,⟨rfl,rfl⟩,⟨rfl,rfl⟩,⟨rfl,rfl⟩,trivial⟩ ⟨⟨rfl,.inl ⟨2,rfl,rfl⟩⟩,⟨rfl,.inl ⟨46,rfl,rfl⟩⟩,⟨rfl,.inl ⟨7,rfl,rfl⟩⟩,⟨rfl,.inl ⟨82,rfl,?_⟩⟩,trivial⟩,hdl⟩;exact yy116
       . have c5:=zy32 c5
         have hn:=hinv.next k1 k2 hl0;rw [<- hA,<- hB,<- hD] at hn;have hn:=hn.2 c5;have hdl:D.2.1.length<l.length:=by rw [hD,hB,hA];exact I3.less hl0
         (conv=>whnf);refine zaa (c:=((acc.map zdw.row).length+1)*24<=140737488355328) zz111 (zw ?_);refine ⟨⟨(D.2.1,D.2.2,acc++[⟨A.1,D.1,B.1==1⟩]),hn⟩,zcl [(2,some 2),(46,some 46),(7,some 7),(900,some 82)] rfl rfl rfl rfl ⟨⟨rfl,rfl⟩,⟨rfl,rfl⟩,⟨rfl,rfl⟩,⟨rfl,rfl⟩,trivial⟩ ⟨⟨rfl,.inl ⟨2,rfl,rfl⟩⟩,⟨rfl,.inl ⟨46,rfl,rfl⟩⟩,⟨rfl,.inl ⟨7,rfl,rfl⟩⟩,⟨rfl,.inl ⟨82,rfl,?_⟩⟩,trivial⟩,hdl⟩;exact yy116
     . have hl0:l=[]:=by
        have:=zy32 c;rw [zy2] at this;exact zy14 zz0
       subst hl0;cases ok with
       | false =>
        have hbad:=hinv.bad rfl;(conv=>whnf);rw [zy1 hbad]
        rfl
       | true =>
        have hbody:=hinv.done k1 k2;(conv=>whnf);refine zbg (zw ?_);refine ⟨_,zhe ⟨kind,T.1,0,0,0,false,false,[],[],0,acc⟩ zz5 zz111,rfl,?_⟩;rw [hbody,zy0 (by simp)];generalize hw:zdq _=w;exact yy42
end Chk
namespace Chk
theorem ygj (b:List UInt8):(parse b).1.zas.length<=b.length/\(parse b).1.zbr.length<=b.length:=by
 have h:=zxt (b[0]?.getD 0).toNat ((b.drop 2).take (b[1]?.getD 0).toNat);have h3:((b.drop 2).take (b[1]?.getD 0).toNat).length<=b.length:=by simp;omega
 unfold parse
 (repeat' split)<;>constructor<;>first | (simp [no];done) | (dsimp only;omega)
end Chk
namespace Chk
theorem ztb:∀ {l:List UInt8},l.length % 4=0->zcm (zeh l)=l
 | a::b::c::d::r,h=>by
  have:=ztb (l:=r) (by simp at h;omega);rw [zeh];show zbt (zin a b)++zbt (zin c d)++zcm (zeh r)=_;rw [zmb,zmb,this];rfl
 | [],_=>rfl
 | [_],h=>by simp at h
 | [_,_],h=>by simp at h
 | [_,_,_],h=>by simp at h
theorem zta:∀ {l:List UInt8},l.length % 4=0->(zco l).2=true->skipBytes (zco l).1=l
 | a::b::c::d::r,h,h2=>by
  rw [zco] at h2 ⊢;split at h2
  . cases h2
  . rename_i hb
    have:=zta (l:=r) (by simp at h;omega) h2;rw [zy0 hb];show [by8 (a.toNat:Int),by8 (if (b.toNat==1)=true then 1 else 0)]++zbt (zin c d)++skipBytes (zco r).1=_;rw [zmb,this,zxv];have hb2:by8 (if (b.toNat==1)=true then 1 else 0)=b:=by
     apply UInt8.toNat_inj.1;rcases zy79 b.toNat 1 with h1 | h1
     . have:b.toNat=0:=by omega
       rw [this];rfl
     . have:b.toNat=1:=by omega
       rw [this];rfl
    rw [hb2];rfl
 | [],_,_=>rfl
 | [_],h,_=>by simp at h
 | [_,_],h,_=>by simp at h
 | [_,_,_],h,_=>by simp at h
theorem xcr {kind:Int} {s:List UInt8} (h:(zcz kind s).2=true):body (zcz kind s).1=s/\(zcz kind s).1.kind=kind:=by
 unfold zcz at h ⊢;split at h
 . cases h
 rename_i h2;rw [zy0 h2];by_cases k1:kind=1
 . rw [zy1 k1] at h ⊢
   split at h
   . cases h
   rename_i h3;rw [zy0 h3];refine ⟨?_,rfl⟩;rcases ywh s with rfl | ⟨x0,rfl⟩ | ⟨x0,x1,rfl⟩ | ⟨x0,x1,x2,rfl⟩ | ⟨x0,x1,x2,x3,rfl⟩ | ⟨x0,x1,x2,x3,x4,rfl⟩ | ⟨x0,x1,x2,x3,x4,x5,rfl⟩ | ⟨x0,x1,x2,x3,x4,x5,x6,r,rfl⟩
   case inr.inr.inr.inr.inr.inr.inr =>
    have hx:x3.toNat<=3:=by simp at h3;omega
    rw [body,zy1 k1];show zbt (zin x0 x1)++[by8 (x2.toNat:Int),by8 ((if (x3.toNat % 2 != 0)=true then 1 else 0)+(if (x3.toNat / 2*2 != 0)=true then 2 else 0))]++zbt (zin x4 x5)++[by8 (x6.toNat:Int)]++r=_;have hfl:by8 ((if (x3.toNat % 2 != 0)=true then 1 else 0)+(if (x3.toNat / 2*2 != 0)=true then 2 else 0))=x3:=by
     apply UInt8.toNat_inj.1;generalize x3.toNat=n at hx
     match n,hx with
     | 0,_=>decide
     | 1,_=>decide
     | 2,_=>decide
     | 3,_=>decide
    rw [zmb,zmb,zxv,zxv,hfl];rfl
   all_goals (exfalso;simp at h3)
 . rw [zy0 k1] at h ⊢
   match s,h2 with
   | a::b::r,_ =>
    by_cases k2:kind=2
    . rw [zy1 k2] at h ⊢
      split at h
      . cases h
      rename_i h3;rw [zy0 h3];refine ⟨?_,rfl⟩
      match r,h3 with
      | c::d::r,h3 =>
       rw [body,zy0 k1,zy1 k2];show zbt (zin a b)++zbt (zin c d)++zcm (zeh r)=_;rw [zmb,zmb,ztb (by simp at h3;omega)];rfl
      | [],h3=>simp at h3
      | [_],h3=>simp at h3
    . rw [zy0 k2] at h ⊢
      split at h
      . cases h
      rename_i h3;rw [zy0 h3];refine ⟨?_,rfl⟩;rw [body,zy0 k1,zy0 k2];show zbt (zin a b)++skipBytes (zco r).1=_;rw [zmb,zta (l:=r) (by simp at h3;omega) h];rfl
   | [],h2=>simp at h2
   | [_],h2=>simp at h2
theorem zyv {b:List UInt8} (h:(parse b).2.2=0):zdq (parse b).1=0/\0<=(parse b).2.1/\(parse b).2.1<=b.length/\bytes (parse b).1=b.take (parse b).2.1.toNat:=by
 by_cases h1:b.length<2\/b.length<2+(b[1]?.getD 0).toNat
 . rw [parse,zy1 h1] at h;cases h
 by_cases h2:(b[0]?.getD 0).toNat<1\/(b[0]?.getD 0).toNat>3
 . rw [parse,zy0 h1,zy1 h2] at h;cases h
 generalize hs:(b.drop 2).take (b[1]?.getD 0).toNat=s;cases h3:(zcz (b[0]?.getD 0).toNat s).2 with
 | false=>rw [parse,zy0 h1,zy0 h2,hs,zy1 h3] at h;cases h
 | true =>
  by_cases h4:zdq (zcz (b[0]?.getD 0).toNat s).1=0
  . have hp:parse b=((zcz (b[0]?.getD 0).toNat s).1,2+((b[1]?.getD 0).toNat:Int),(0:Int)):=by
     rw [parse,zy0 h1,zy0 h2,hs,zy0 (by rw [h3];simp),zy0 (fun h=>h h4)]
    obtain ⟨g1,g2⟩:=xcr h3;have hlen:s.length=(b[1]?.getD 0).toNat:=by rw [<- hs];simp;omega
    rw [hp];refine ⟨h4,by dsimp only;omega,by dsimp only;omega,?_⟩;dsimp only;rw [bytes,zy1 h4,g1,g2,hlen,zxv,zxv];have e2:∀ m:Nat,(2+(m:Int)).toNat=m+1+1:=by intro m;omega
    rw [e2]
    match b,h1,hs with
    | x::y::r,h1,hs =>
     rw [<- hs];rfl
    | [],h1,_=>simp at h1
    | [_],h1,_=>simp at h1
  . rw [parse,zy0 h1,zy0 h2,hs,zy0 (by rw [h3];simp),zy1 h4] at h
    exact absurd h h4
end Chk
namespace Pck
open Chk
abbrev chunks (l:List Chunk):HV:=.p (.sl 11 (l.map Chunk.row))
def zeu (l:List Chunk):Prop:=l.length<2 ^ 38/\∀ c∈l,c.zas.length<2 ^ 38/\c.zbr.length<2 ^ 38
def zcw:List Chunk->Int
 | []=>0
 | c::r=>if zdq c≠0 then zdq c else zcw r
def zcf (l:List Chunk):List UInt8:=l.flatMap Chk.bytes
def zda (l:List Chunk) (most:Int):List UInt8×Int :=
 if l.length=0 then ([],5) else if zcw l≠0 then ([],zcw l) else if ((zcf l).length:Int)>most then ([],4) else (zcf l,0)
theorem zpe (c:Chunk):(Chk.bytes c).length<=36:=by
 unfold Chk.bytes;split
 . rename_i h;have:=yaf h;simp;omega
 . simp
theorem zgg:∀ l:List Chunk,(zcf l).length<=36*l.length
 | []=>by simp [zcf]
 | c::r=>by
  have h1:=zpe c;have h2:=zgg r;simp only [zcf,List.flatMap_cons,zy8,zy6] at h2 ⊢;omega
theorem zey {l:List Chunk} {k:Nat} (h:k<l.length):zcf (l.take (k+1))=zcf (l.take k)++Chk.bytes l[k]:=by
 rw [<- zy88 h,zcf,zy117];simp [zcf]
theorem zge (l:List Chunk) (most:Int) (hl:zeu l):zan Tryz.prog 141 [chunks l,i64 most] zad (.tup [zxw (zda l most).1,i64 (zda l most).2]) zad:=by
 obtain ⟨hl1,hl2⟩:=hl;refine zal mixed Tryz.func141 zz4 ?_;(conv=>whnf);refine zaf (fun c1=>?_) (fun c1=>?_)
 . have c1:l.length=0:=by simpa using c1
   rw [zda,zy1 c1];(conv=>whnf)
   rfl
 have c1:¬ l.length=0:=by simpa using c1
 rw [zda,zy0 c1];(conv=>whnf);refine ⟨{k:Nat // k<=l.length/\zcw l=zcw (l.drop k)},fun | ⟨k,_⟩=>hs 37 [(1,i64 most),(6,.own 900),(14,chunks l),(15,i64 l.length),(16,i64 k)] [(900,zlw (zcf (l.take k)))],fun x=>l.length-x.1,⟨0,by omega,rfl⟩,?_,?_⟩
 . exact zcl [(900,none)] rfl rfl rfl rfl ⟨⟨rfl,rfl⟩,⟨rfl,rfl⟩,⟨rfl,rfl⟩,⟨rfl,by simp;rfl⟩,⟨rfl,rfl⟩,trivial⟩ ⟨⟨rfl,.inr ⟨rfl,rfl⟩⟩,trivial⟩
 rintro ⟨k,hk,hi⟩;(conv=>whnf);refine zaf (fun c2=>?_) (fun c2=>?_)
 . have hlt:k<l.length:=by simpa using c2
   have hab:=zgg (l.take k);have hab2:(l.take k).length<=k:=by simp;omega
   obtain ⟨s1,s2⟩:=hl2 l[k] (zy51 hlt);have hsucc:=zey hlt;have hbl:=zpe l[k];rw [zy18 hlt] at hi;simp only [zcw] at hi;(conv=>whnf);refine zbz (f:=Chunk.row) (l:=l) k rfl hlt ?_;generalize l[k]=c at s1 s2 hi hsucc hbl ⊢;(conv=>whnf);refine zdc (zw ?_);refine ⟨_,zzi c zz0 zz0,rfl,zw ?_⟩;exact yy26
 . have hge:l.length<=k:=by simpa using c2
   exact yy45
theorem zjp (l:List Chunk) (most:Int) (hl:zeu l):zan Tryz.prog 105 [chunks l,i64 most] zad (.tup [zxw (zda l most).1,i64 (zda l most).2]) zad:=by
 obtain ⟨hl1,hl2⟩:=hl;refine zal mixed Tryz.func105 zz4 ?_;(conv=>whnf);refine zaf (fun c1=>?_) (fun c1=>?_)
 . have c1:l.length=0:=by simpa using c1
   rw [zda,zy1 c1];(conv=>whnf)
   rfl
 have c1:¬ l.length=0:=by simpa using c1
 rw [zda,zy0 c1];(conv=>whnf);refine ⟨{k:Nat // k<=l.length/\zcw l=zcw (l.drop k)},fun | ⟨k,_⟩=>hs 37 [(1,i64 most),(6,.own 900),(14,chunks l),(15,i64 l.length),(16,i64 k)] [(900,zlw (zcf (l.take k)))],fun x=>l.length-x.1,⟨0,by omega,rfl⟩,?_,?_⟩
 . exact zcl [(900,none)] rfl rfl rfl rfl ⟨⟨rfl,rfl⟩,⟨rfl,rfl⟩,⟨rfl,rfl⟩,⟨rfl,by simp;rfl⟩,⟨rfl,rfl⟩,trivial⟩ ⟨⟨rfl,.inr ⟨rfl,rfl⟩⟩,trivial⟩
 rintro ⟨k,hk,hi⟩;(conv=>whnf);refine zaf (fun c2=>?_) (fun c2=>?_)
 . have hlt:k<l.length:=by simpa using c2
   have hab:=zgg (l.take k);have hab2:(l.take k).length<=k:=by simp;omega
   obtain ⟨s1,s2⟩:=hl2 l[k] (zy51 hlt);have hsucc:=zey hlt;have hbl:=zpe l[k];rw [zy18 hlt] at hi;simp only [zcw] at hi;(conv=>whnf);refine zbz (f:=Chunk.row) (l:=l) k rfl hlt ?_;generalize l[k]=c at s1 s2 hi hsucc hbl ⊢;(conv=>whnf);refine zdc (zw ?_);refine ⟨_,yky c zz0 zz0,rfl,zw ?_⟩;exact yy26
 . have hge:l.length<=k:=by simpa using c2
   exact yy45
def zfq (most:Int) (n:Nat) (k:Nat):List Chunk->Int
 | []=>k
 | c::r=>if zdq c≠0\/((Chk.bytes c).length:Int)>most-n then k else zfq most (n+(Chk.bytes c).length) (k+1) r
theorem znh (l:List Chunk) (most:Int) (hl:zeu l) (hm:inI most):zan Tryz.prog 140 [chunks l,i64 most] zad (i64 (zfq most 0 0 l)) zad:=by
 obtain ⟨hl1,hl2⟩:=hl;refine zal mixed Tryz.func140 zz4 ?_;(conv=>whnf);refine ⟨{x:Nat×Nat // x.1<=l.length/\x.2=(zcf (l.take x.1)).length/\((x.2:Int)<=most\/x.2=0)/\zfq most x.2 x.1 (l.drop x.1)=zfq most 0 0 l},fun | ⟨(k,n),_⟩=>hs 40 [(0,chunks l),(1,i64 most),(5,i64 n),(10,chunks l),(11,i64 l.length),(12,i64 k)] [],fun x=>l.length-x.1.1,⟨(0,0),by simp,by simp [zcf],.inr rfl,rfl⟩,?_,?_⟩
 . exact zcl [] rfl rfl rfl rfl ⟨⟨rfl,rfl⟩,⟨rfl,rfl⟩,⟨rfl,rfl⟩,⟨rfl,rfl⟩,⟨rfl,by simp;rfl⟩,⟨rfl,rfl⟩,trivial⟩ trivial
 rintro ⟨⟨k,n⟩,hk,hn,hmost,hi⟩;dsimp only at hk hn hmost hi;(conv=>whnf);refine zaf (fun c1=>?_) (fun c1=>?_)
 . have hlt:k<l.length:=by simpa using c1
   have hab:=zgg (l.take k);have hab2:(l.take k).length<=k:=by simp;omega
   obtain ⟨s1,s2⟩:=hl2 l[k] (zy51 hlt);rw [zy18 hlt] at hi;simp only [zfq] at hi;(conv=>whnf);refine zbz (f:=Chunk.row) (l:=l) k rfl hlt (zw ?_);have hbl:=zpe l[k];have hsucc:=zey hlt;generalize l[k]=c at s1 s2 hi hbl hsucc ⊢;refine zdc (zw ?_);refine ⟨_,zzi c zz0 zz0,rfl,zw ?_⟩;refine zaf (fun c2=>?_) (fun c2=>?_)
   . have c2:zdq c≠0:=by simpa using c2
     rw [zy1 (.inl c2)] at hi;(conv=>whnf);rw [<- hi]
   have c2:zdq c=0:=by simpa using c2
   obtain ⟨hm1,hm2⟩:=hm;(conv=>whnf);refine zaq (z:=most-n) (zbu zz0 zz0) (zw ?_);refine zaf (fun c3=>?_) (fun c3=>?_)
   . have c3:((Chk.bytes c).length:Int)>most-n:=by simpa using c3
     rw [zy1 (.inr c3)] at hi;(conv=>whnf);rw [<- hi]
   have c3:¬ ((Chk.bytes c).length:Int)>most-n:=by simpa using c3
   rw [zy0 (by rintro (h | h);exact h c2;exact c3 h)] at hi;(conv=>whnf);refine zaq (z:=(n:Int)+((Chk.bytes c).map zcp).length) (zbu zz3 zz3) (zw ?_);refine sFm ?_;exact ⟨⟨(k+1,n+(Chk.bytes c).length),hlt,by dsimp only;rw [hsucc];simp;omega,by dsimp only;left;push_cast;omega,hi⟩,zcl [] rfl rfl rfl rfl ⟨⟨rfl,rfl⟩,⟨rfl,rfl⟩,⟨rfl,by simp;rfl⟩,⟨rfl,rfl⟩,⟨rfl,rfl⟩,⟨rfl,by simp;rfl⟩,trivial⟩ trivial,by dsimp only;omega⟩
 . have hge:l.length<=k:=by simpa using c1
   rw [zy19 hge] at hi;(conv=>whnf);have hkl:k=l.length:=by omega
   simp only [zfq] at hi;rw [<- hi,hkl];simp
end Pck
namespace Pck
open Chk
theorem zmc {l:List Chunk} {k:Nat} (h:k<l.length) (h0:zcw (l.take k)=0):zcw (l.take (k+1))=zdq l[k]:=by
 rw [<- zy88 h];generalize l.take k=a at h0 ⊢;generalize l[k]=c
 induction a with
 | nil=>simp only [zy57,zcw];split<;>omega
 | cons x r ih =>
  simp only [zcw] at h0;split at h0
  . contradiction
  . rename_i hx
    simp only [zy40,zcw];rw [zy0 hx];exact ih h0
structure Fits (l:List Chunk) (most:Int) (k:Nat):Prop where
 le:k<=l.length
 xhc:zcw (l.take k)=0
 much:((zcf (l.take k)).length:Int)<=most\/k=0
theorem Fits.zero (l:List Chunk) (most:Int):Fits l most 0:=⟨by omega,by simp [zcw],.inr rfl⟩
theorem ymg {l:List Chunk} {most:Int} {k:Nat} (h:k<l.length) (hf:Fits l most k) :
 ((zda (l.take (k+1)) most).2≠0↔(zdq l[k]≠0\/((Chk.bytes l[k]).length:Int)>most-(zcf (l.take k)).length)):=by
 have h1:=zmc h hf.xhc;have h2:(zcf (l.take (k+1))).length=(zcf (l.take k)).length+(Chk.bytes l[k]).length:=by rw [zey h];simp
 have h3:¬ (l.take (k+1)).length=0:=by rw [zy67];omega
 rw [zda,zy0 h3,h1];by_cases hw:zdq l[k]≠0
 . rw [zy1 hw]
   exact ⟨fun h=>.inl hw,fun _=>hw⟩
 . rw [zy0 hw]
   split
   . exact ⟨fun _=>.inr zz0,fun _=>by decide⟩
   . exact ⟨fun h=>absurd rfl h,fun h=>by rcases h with h | h;exact absurd h hw;omega⟩
theorem Fits.next {l:List Chunk} {most:Int} {k:Nat} (h:k<l.length) (hf:Fits l most k) (hn:¬ (zdq l[k]≠0\/((Chk.bytes l[k]).length:Int)>most-(zcf (l.take k)).length)):Fits l most (k+1):=by
 have h1:=zmc h hf.xhc;have h2:(zcf (l.take (k+1))).length=(zcf (l.take k)).length+(Chk.bytes l[k]).length:=by rw [zey h];simp
 refine ⟨h,?_,.inl ?_⟩
 . rw [h1];rcases Int.decEq (zdq l[k]) 0 with h | h;exact absurd (.inl h) hn;exact h
 . have:¬ ((Chk.bytes l[k]).length:Int)>most-(zcf (l.take k)).length:=fun h=>hn (.inr h)
   omega
theorem ymf {l:List Chunk} {most:Int}:∀ {j k:Nat},l.length-k=j->Fits l most k->∃ r,zfq most (zcf (l.take k)).length k (l.drop k)=(r:Nat)/\Fits l most r/\(r<l.length->(zda (l.take (r+1)) most).2≠0)
 | 0,k,hj,hf=>by
  have hk:k=l.length:=by have:=hf.le;omega
  refine ⟨k,?_,hf,fun h=>absurd h zz0⟩;rw [zy19 (by omega)];rfl
 | j+1,k,hj,hf=>by
  have hlt:k<l.length:=by omega
  have hs:=ymg hlt hf;rw [zy18 hlt];simp only [zfq];by_cases hc:zdq l[k]≠0\/((Chk.bytes l[k]).length:Int)>most-(zcf (l.take k)).length
  . rw [zy1 hc]
    exact ⟨k,rfl,hf,fun _=>hs.2 hc⟩
  . rw [zy0 hc]
    obtain ⟨r,h1,h2,h3⟩:=ymf (j:=j) (k:=k+1) zz0 (hf.next hlt hc);rw [zey hlt,zy8] at h1;exact ⟨r,h1,h2,h3⟩
theorem yja (l:List Chunk) (most:Int):∃ r,zfq most 0 0 l=(r:Nat)/\Fits l most r/\(r<l.length->(zda (l.take (r+1)) most).2≠0):=by
 have:=ymf (l:=l) (most:=most) rfl (Fits.zero l most)
 simpa [zcf] using this
theorem zeu.take {l:List Chunk} (h:zeu l) (k:Nat):zeu (l.take k):=⟨by have:=h.1;simp;omega,fun c hc=>h.2 c (zy65 hc)⟩
theorem yht (l:List Chunk) (most:Int) (hl:zeu l):zan Tryz.prog 104 [chunks l,i64 most] zad (i64 (zfq most 0 0 l)) zad:=by
 have hl1:=hl.1;refine zal mixed Tryz.func104 zz4 ?_;(conv=>whnf);refine zhs.go (zw ?_);refine ⟨{k:Nat // Fits l most k/\zfq most (zcf (l.take k)).length k (l.drop k)=zfq most 0 0 l},fun | ⟨k,_⟩=>hs 26 [(0,chunks l),(1,i64 most),(5,i64 k)] [],fun x=>l.length-x.1,⟨0,Fits.zero l most,by simp [zcf]⟩,?_,?_⟩
 . exact zcl [] rfl rfl rfl rfl ⟨⟨rfl,rfl⟩,⟨rfl,rfl⟩,⟨rfl,rfl⟩,trivial⟩ trivial
 rintro ⟨k,hf,hi⟩;(conv=>whnf);refine zaf (fun c1=>?_) (fun c1=>?_)
 . have hlt:k<l.length:=by simpa using c1
   have hstep:=ymg hlt hf;have zcq:=hf.next hlt;have hsucc:=zey hlt;rw [zy18 hlt] at hi;simp only [zfq] at hi;(conv=>whnf);refine sFm ?_;refine sOm ?_;refine zha (o':=0) (n':=k+1) rfl zz0 ?_;refine zgc (l:=l) zz0 ?_;rw [zy100];(conv=>whnf);refine zdc (zw ?_);refine ⟨_,zjp (l.take (k+1)) most (hl.take _),rfl,zw ?_⟩;refine zaf (fun c2=>?_) (fun c2=>?_)
   . have c2:(zda (l.take (k+1)) most).2≠0:=by simpa using c2
     rw [zy1 (hstep.1 c2)] at hi;(conv=>whnf);rw [<- hi]
   . have c2:(zda (l.take (k+1)) most).2=0:=by simpa using c2
     have hn:¬ (zdq l[k]≠0\/((Chk.bytes l[k]).length:Int)>most-(zcf (l.take k)).length):=fun h=>hstep.2 h c2
     rw [zy0 hn] at hi;(conv=>whnf);refine sFm ?_;exact ⟨⟨k+1,zcq hn,by rw [hsucc,zy8];exact hi⟩,zcl [] rfl rfl rfl rfl ⟨⟨rfl,rfl⟩,⟨rfl,rfl⟩,⟨rfl,by simp;rfl⟩,trivial⟩ trivial,by dsimp only;omega⟩
 . have hge:l.length<=k:=by simpa using c1
   rw [zy19 hge] at hi;(conv=>whnf);rw [<- hi]
   rfl
def zfj:Nat->List UInt8->List Chunk×Int
 | 0,_=>([],0)
 | f+1,b=>if b.length=0 then ([],0) else if (parse b).2.2≠0 then ([],(parse b).2.2) else
  if (zfj f (b.drop (parse b).2.1.toNat)).2≠0 then ([],(zfj f (b.drop (parse b).2.1.toNat)).2) else ((parse b).1::(zfj f (b.drop (parse b).2.1.toNat)).1,0)
def zgx (b:List UInt8):List Chunk×Int:=if b.length=0 then ([],5) else zfj b.length b
theorem yvl {b:List UInt8} (h:(parse b).2.2=0):2<=(parse b).2.1:=by
 unfold parse at h ⊢
 (repeat' split at h)<;>first | contradiction | skip
 all_goals (repeat' split)<;>first | contradiction | (dsimp only;omega)
theorem zyu:∀ (f:Nat) (b:List UInt8),(zfj f b).2≠0->(zfj f b).1=[]
 | 0,b,h=>rfl
 | f+1,b,h=>by
  rw [zfj] at h ⊢;split
  . rfl
  split
  . rfl
  split
  . rfl
  . rename_i h1 h2 h3
    rw [zy0 h1,zy0 h2,zy0 h3] at h;exact absurd rfl h
theorem ykt (b:List UInt8) (hb:b.length<2 ^ 37):zan Tryz.prog 151 [zxw b] zad (.tup [chunks (zgx b).1,i64 (zgx b).2]) zad:=by
 refine zal mixed Tryz.func151 zz4 ?_;(conv=>whnf);refine zaf (fun c1=>?_) (fun c1=>?_)
 . have c1:b.length=0:=by simpa using c1
   rw [zgx,zy1 c1];(conv=>whnf)
   rfl
 have c1:¬ b.length=0:=by simpa using c1
 rw [zgx,zy0 c1];generalize hR:zfj b.length b=R;(conv=>whnf);refine ⟨{x:Nat×List UInt8×List Chunk // x.2.1.length<=x.1/\x.2.2.length+x.2.1.length<=b.length/\R.2=(zfj x.1 x.2.1).2/\((zfj x.1 x.2.1).2=0->R.1=x.2.2++(zfj x.1 x.2.1).1)/\(R.2≠0->R.1=[])},fun | ⟨(f,b',acc),_⟩=>hs 31 [(0,zxw b'),(4,.own 900)] [(900,.live (.row 61 11 (acc.map Chunk.row)))],fun x=>x.1.2.1.length,⟨(b.length,b,[]),by dsimp only;omega,by simp,by dsimp only;rw [hR],fun _=>by dsimp only;rw [hR];rfl,by rw [<- hR];exact zyu _ _⟩,?_,?_⟩
 . exact zcl [(900,none)] rfl rfl rfl rfl ⟨⟨rfl,rfl⟩,⟨rfl,rfl⟩,trivial⟩ ⟨⟨rfl,.inr ⟨rfl,rfl⟩⟩,trivial⟩
 rintro ⟨⟨f,b',acc⟩,hf,hlen,h1,h2,h3⟩;dsimp only at hf hlen h1 h2 h3;(conv=>whnf);refine zaf (fun c2=>?_) (fun c2=>?_)
 . have c2:0<b'.length:=by have:=zy24 c2;rw [zy2] at this;omega
   obtain ⟨g,rfl⟩:∃ g,f=g+1:=⟨f-1,by omega⟩
   rw [zfj,zy0 (by omega)] at h1 h2;have hn:=yvl (b:=b');have hg:=zyv (b:=b');obtain ⟨q1,q2⟩:=ygj b';(conv=>whnf);refine zdc (zw ?_);refine ⟨_,yqs b' zz0,rfl,?_⟩;exact yy12
 . have c2:b'.length=0:=by have:=zy32 c2;rw [zy2] at this;omega
   exact yy105
theorem yhw (b:List UInt8) (hb:b.length<2 ^ 37):zan Tryz.prog 145 [zxw b] zad (.tup [chunks (zgx b).1,i64 (zgx b).2]) zad:=by
 refine zal mixed Tryz.func145 zz4 ?_;(conv=>whnf);refine zaf (fun c1=>?_) (fun c1=>?_)
 . have c1:b.length=0:=by simpa using c1
   rw [zgx,zy1 c1];(conv=>whnf)
   rfl
 have c1:¬ b.length=0:=by simpa using c1
 rw [zgx,zy0 c1];generalize hR:zfj b.length b=R;(conv=>whnf);refine ⟨{x:Nat×List UInt8×List Chunk // x.2.1.length<=x.1/\x.2.2.length+x.2.1.length<=b.length/\R.2=(zfj x.1 x.2.1).2/\((zfj x.1 x.2.1).2=0->R.1=x.2.2++(zfj x.1 x.2.1).1)/\(R.2≠0->R.1=[])},fun | ⟨(f,b',acc),_⟩=>hs 31 [(0,zxw b'),(4,.own 900)] [(900,.live (.row 61 11 (acc.map Chunk.row)))],fun x=>x.1.2.1.length,⟨(b.length,b,[]),by dsimp only;omega,by simp,by dsimp only;rw [hR],fun _=>by dsimp only;rw [hR];rfl,by rw [<- hR];exact zyu _ _⟩,?_,?_⟩
 . exact zcl [(900,none)] rfl rfl rfl rfl ⟨⟨rfl,rfl⟩,⟨rfl,rfl⟩,trivial⟩ ⟨⟨rfl,.inr ⟨rfl,rfl⟩⟩,trivial⟩
 rintro ⟨⟨f,b',acc⟩,hf,hlen,h1,h2,h3⟩;dsimp only at hf hlen h1 h2 h3;(conv=>whnf);refine zaf (fun c2=>?_) (fun c2=>?_)
 . have c2:0<b'.length:=by have:=zy24 c2;rw [zy2] at this;omega
   obtain ⟨g,rfl⟩:∃ g,f=g+1:=⟨f-1,by omega⟩
   rw [zfj,zy0 (by omega)] at h1 h2;have hn:=yvl (b:=b');have hg:=zyv (b:=b');obtain ⟨q1,q2⟩:=ygj b';(conv=>whnf);refine zdc (zw ?_);refine ⟨_,yla b' zz0,rfl,?_⟩;exact yy12
 . have c2:b'.length=0:=by have:=zy32 c2;rw [zy2] at this;omega
   exact yy105
end Pck
end Go.HL
