/- Walks, contracts and laws of the law's functions: part 3. No condition. -/
import Derived.Test.YtkadjamdjfefeaaQDb
open Go.Proofs
set_option maxHeartbeats 32000000
set_option maxRecDepth 100000
set_option linter.unusedSimpArgs false
theorem yy31 {P:Prop} (h:P:=by
 intro hlt;have:=zy67 (zqp n) l;rw [show l.dropWhile (zqp n)=t::r from ha] at this;simp [zqp] at this;omega):P:=h
theorem yy3 {P:Prop} (h:P:=by
 refine zbe [(0,some 24)] rfl rfl trivial rfl rfl ⟨⟨rfl,.inl ⟨24,rfl,rfl⟩⟩,trivial⟩):P:=h
theorem yy4 {P:Prop} (h:P:=by
 (conv=>whnf);rw [zdm,zy13 he];refine zbe [(0,some 84)] rfl rfl trivial rfl rfl ⟨⟨rfl,.inl ⟨84,rfl,?_⟩⟩,trivial⟩;exact zjw zz20):P:=h
theorem yy28 {P:Prop} (h:P:=by
 subst hu;refine zbe [(0,some 31)] rfl rfl trivial rfl rfl ⟨⟨rfl,.inl ⟨31,rfl,?_⟩⟩,trivial⟩;exact zjw h):P:=h
namespace Go.HL
theorem zsb {rows:List (List PV)} {o n o' n':Nat} {K:List (List PV)->Prop} (ho:o=o') (hn:n=n') (h:zie rows o' n' K):zie rows o n K:=by subst ho;subst hn;exact h
theorem zvw {z:Int} (h1:0<=z) (h2:z<18446744073709551616):IntKind.u64.wrap z=z:=by
 unfold IntKind.wrap;simp [IntKind.bits,IntKind.signed];omega
theorem zaw {k:IntKind} {z z':Int} {K:Int->Prop} (h:k.wrap z=z') (hk:K z'):zfq k z K:=⟨z',h.symm,hk⟩
theorem zwp {z:Int} {K:Int->Prop} (h:K (W z)):zfq .i64 z K:=⟨_,rfl,h⟩
theorem zxg {α:Type} {t n:Nat} {f:α->List PV} {a b:List α} {x:α} {r:List PV} (h:b=a++[x]) (hr:f x=r):zaa.live (.row t n (a.map f++[r]))=zaa.live (.row t n (b.map f)):=by
 rw [h,zy36,<- hr];rfl
theorem zbh {α:Type} {f:α->List PV} {l a b:List α} {s:α} {z:Int} {K:List PV->Prop} (h:l=a++s::b) (hz:z=a.length) (hk:K (f s)):zlx (l.map f) z K:=by
 subst h;exact ⟨_,by omega,by rw [hz,Int.toNat_natCast,zy9,zy17 (zy39 _)];simp,hk⟩
theorem zsz {α:Type} {t n:Nat} {f:α->List PV} {a b:List α} {x y:α} {k:Nat} {r:List PV} (hk:k=a.length) (hr:f y=r) :
 zaa.live (.row t n ((a++y::b).map f))=zaa.live (.row t n (((a++x::b).map f).set k r)):=by
 subst hk;subst hr;have:((a++x::b).map f).set a.length (f y)=(a++y::b).map f:=by
  induction a with
  | nil=>rfl
  | cons z a ih=>simp only [zy62,zy10,zy23,List.set_cons_succ];rw [ih]
 rw [this]
namespace Ser
abbrev zoj (l:List Span):HV:=.p (.sl 2 (l.map Span.row))
def tag (n:Int):Int:=n % 65536
def zvp (a t:Int):Int:=W (a+(if tag (W (t-a))>32768 then tag (W (t-a))-65536 else tag (W (t-a))))
theorem zvu (n:Int):0<=tag n/\tag n<65536:=by unfold tag;omega
theorem zzc (z:Int):tag (W z)=tag z:=by
 unfold tag W IntKind.wrap;simp [IntKind.bits,IntKind.signed];omega
theorem zwt {a t:Int} (h1:-(2 ^ 61)<=a) (h2:a<=2 ^ 61):a-32767<=zvp a t/\zvp a t<=a+32768/\tag (zvp a t)=tag t:=by
 have h3:=zvu (W (t-a));have h4:=zzc (t-a);unfold zvp;split
 . rw [zbu (by omega) (by omega)];refine ⟨by omega,by omega,?_⟩;rw [h4];unfold tag;omega
 . rw [zbu (by omega) (by omega)];refine ⟨by omega,by omega,?_⟩;rw [h4];unfold tag;omega
def has (l:List Span) (n:Int):Bool:=l.any fun s=>decide (s.lo<=n)&&decide (n<=s.hi)
theorem zla (n:Int):zbg Try.prog 27 [i64 n] zao (i64 (tag n)) zao:=by
 refine zbm mixed Try.func27 zz5 ?_;(conv=>whnf);show i64 (bits .and .i64 n 65535)=_;rw [zvx];rfl
theorem znb (a t:Int):zbg Try.prog 26 [i64 a,i64 t] zao (i64 (zvp a t)) zao:=by
 refine zbm mixed Try.func26 zz5 ?_;have h3:=zvu (W (t-a));(conv=>whnf);refine sR ?_
 (refine cL ?_;refine dL (zla _) ?_)
 (try refine sG ?_)
 refine zbr (fun c=>?_) (fun c=>?_)
 . have c:tag (W (t-a))>32768:=by simpa using c
   (conv=>whnf);refine zbs (z:=tag (W (t-a))-65536) (zbu zz1 zz1) (zw ?_);refine sR ?_;rw [zvp,zy13 c]
 . have c:¬ tag (W (t-a))>32768:=by simpa using c
   (conv=>whnf);refine sR ?_;rw [zvp,zy12 c]
theorem zuf {g:FuncId} {cs:List PV} {p:Span->Bool} (hg:∀ m:Span,zbg Try.prog g [m.hv,.rp cs] zao (zbp (p m)) zao) (q:List Span) (hb:q.length<2 ^ 62) :
 zbg Try.prog 48 [.p (.sl 2 (q.map Span.row)),.clo g [.rp cs]] zao (i64 (zej p 0 q)) zao:=by
 refine zbm mixed Try.func48 zz5 ?_;(conv=>whnf);refine ⟨{k:Nat // k<=q.length/\zej p k (q.drop k)=zej p 0 q},fun | ⟨k,_⟩=>hs 19 [(0,.p (.sl 2 (q.map Span.row))),(1,.clo g [.rp cs]),(7,i64 (q.map Span.row).length),(8,i64 k)] [],fun k=>q.length-k.1,⟨0,by simp⟩,?_,?_⟩
 . exact (zqg [])
 . rintro ⟨k,hk,hi⟩
   (conv=>whnf);refine zbr (fun h=>?_) (fun h=>?_)
   . have hlt:k<q.length:=by simpa using h
     (conv=>whnf);refine zjk (r:=(q[k]).row) zz0 (by simp [hlt]) ?_;(conv=>whnf);refine zia (zw ?_);refine ⟨_,hg q[k],rfl,zw ?_⟩;rw [List.drop_eq_getElem_cons hlt] at hi;simp only [zej] at hi;refine zbr (fun h=>?_) (fun h=>?_)
     . conv=>whnf
       rw [zy13 h] at hi;rw [<- hi]
     . conv=>whnf
       rw [zy12 (by rw [h];decide)] at hi;refine zbs (zbu zz1 zz1) ?_;(conv=>whnf);exact ⟨⟨k+1,hlt,hi⟩,(zqg []),by dsimp only;omega⟩
   . conv=>whnf
     have hge:q.length<=k:=by simpa using h
     rw [zy37 hge] at hi;rw [<- hi];rfl
theorem zte (s:Span) (n:Int):zbg Try.prog 45 [s.hv,.rp [pi n]] zao (zbp (decide (s.lo<=n)&&decide (n<=s.hi))) zao:=by
 refine zbm mixed Try.func45 zz5 ?_;(conv=>whnf);refine zbr (fun c=>?_) (fun c=>?_)<;>conv=>whnf
 . show zbp (decide (n<=s.hi))=_;rw [show decide (s.lo<=n)=true from c,Bool.true_and]
 . rw [show decide (s.lo<=n)=false from c,Bool.false_and]
theorem zse {α:Type} {p:α->Bool}:∀ (l:List α) (k:Nat),decide (zej p k l>=0)=l.any p
 | [],k=>rfl
 | x::r,k=>by
  simp only [zej,List.any_cons];split
  . rename_i h;rw [h];simp
  . rename_i h;rw [zse r];simp [h]
theorem zkz {g:FuncId} {cs:List PV} {p:Span->Bool} (hg:∀ m:Span,zbg Try.prog g [m.hv,.rp cs] zao (zbp (p m)) zao) (q:List Span) (hb:q.length<2 ^ 62) :
 zbg Try.prog 44 [zoj q,.clo g [.rp cs]] zao (zbp (q.any p)) zao:=by
 refine zbm mixed Try.func44 zz5 ?_;(conv=>whnf)
 (refine cZ ?_;refine dL (zuf hg q hb) ?_)
 show zbp (decide (zej p 0 q>=0))=_;rw [zse]
theorem zvd (l:List Span) (n:Int) (hb:l.length<2 ^ 62):zbg Try.prog 36 [zoj l,i64 n] zao (zbp (has l n)) zao:=by
 refine zbm mixed Try.func36 zz5 ?_;(conv=>whnf)
 (refine cL ?_;refine dL (zkz (fun m=>zte m n) l hb) ?_)
 rfl
end Ser
theorem ztq {rows ys:List (List PV)} {z:List PV} {i j a k m:Nat} (hij:i<=j) (hj:j<=rows.length) (ha:a=i) (hy:ys=(rows.drop j).take (rows.length-j)) (hk:k=i+ys.length) (hm:m=j-i) (_:i+ys.length+(j-i)=rows.length) :
 zav (zav rows a ys) k (List.replicate m z)=rows.take i++rows.drop j++List.replicate (j-i) z:=by
 subst ha hm;have hy2:ys=rows.drop j:=by rw [hy,zy38 (by simp)]
 have h1:ys.length=rows.length-j:=by rw [hy2];simp
 have h2:(rows.take a).length=a:=by simp;omega
 have h3:zav rows a ys=(rows.take a++ys)++rows.drop k:=by rw [zav,hk]
 have h4:(rows.take a++ys).length=k:=by simp;omega
 rw [zav,h3,zy73 h4,zy37 (by simp only [zy27,zy53,zy51,h2];omega),zy56,hy2]
theorem zui {rows ys zs:List (List PV)} {a b k:Nat} (hk:k<rows.length) (ha:a=k+1) (hy:ys=rows.drop k) (hb:b=k) (hz:zs.length=1):zav (zav rows a ys) b zs=rows.take k++zs++rows.drop k:=by
 subst ha hy hb;have h1:zav rows (b+1) (rows.drop b)=rows.take (b+1)++rows.drop b:=by
  rw [zav,zy37 (i:=b+1+(rows.drop b).length) (by simp;omega),zy56]
 have h2:(rows.take (b+1)).length=b+1:=by simp;omega
 rw [zav,h1,hz,List.drop_left' h2,List.take_append_of_le_length (by omega),List.take_take,Nat.min_eq_left (by omega)]
theorem zuh {rows ys zs:List (List PV)} {z:List PV} {a b k m:Nat} (hk:k<rows.length) (hm:m=rows.length+1-k) (ha:a=k) (hz:zs.length=1) (hb:b=k+1) (hy:ys=rows.drop k) :
 zav (zav (rows.take k++List.replicate m z) a zs) b ys=rows.take k++zs++rows.drop k:=by
 subst hm ha hb hy;have h1:(rows.take a).length=a:=by simp;omega
 have h2:zav (rows.take a++List.replicate (rows.length+1-a) z) a zs=(rows.take a++zs)++(rows.take a++List.replicate (rows.length+1-a) z).drop (a+1):=by
  rw [zav,zy73 h1,hz]
 have h3:(rows.take a++zs).length=a+1:=by simp;omega
 rw [zav,h2,zy73 h3,zy37 (i:=a+1+_) (by simp;omega),zy56]
theorem zzm {α:Type} {f:α->List PV} {v:α} {m:Nat} {l r:List α} (h:0<m):(l.map f++[f v].take m)++r.map f=(l++v::r).map f:=by
 rw [zy38 (by simp;omega),zy36,zy10,zy44];rfl
theorem zyp {α:Type} {f:α->List PV} {v:α} {m k:Nat} {l:List α} (h:0<m):(l.map f).take k++[f v].take m++(l.map f).drop k=(l.take k++v::l.drop k).map f:=by
 rw [<- List.map_take,<- zy64];exact zzm h
def zhw (cmp:Span->Int) (l:List Span) (K:Nat):Bool:=match l[K]? with | some s=>cmp s==0 | none=>false
theorem zxh {g:FuncId} {cmp:Span->Int} {n:Int} (hg:∀ m:Span,zbg Try.prog g [m.hv,i64 n] zao (i64 (cmp m)) zao) (l:List Span) (K:Nat) (hK:K<=l.length) (hm:∀ (i:Nat) (h:i<l.length),cmp l[i]<0↔i<K) (hb:l.length<2 ^ 40) :
 zbg Try.prog 40 [Ser.zoj l,i64 n,.clo g []] zao (.tup [i64 K,zbp (zhw cmp l K)]) zao:=by
 refine zbm mixed Try.func40 zz5 ?_;(conv=>whnf);refine ⟨{x:Nat×Nat // x.1<=K/\K<=x.2/\x.2<=l.length},fun | ⟨(i,j),_⟩=>hs 49 [(0,Ser.zoj l),(1,i64 n),(2,.clo g []),(8,i64 l.length),(9,i64 i),(10,i64 j)] [],fun x=>x.1.2-x.1.1,⟨(0,l.length),by simp,hK,zy39 _⟩,?_,?_⟩
 . exact (zqg [])
 rintro ⟨⟨i,j⟩,h1,h2,h3⟩;dsimp only at h1 h2 h3;(conv=>whnf);by_cases c:i<j
 . have hlt:(i+j) / 2<l.length:=by omega
   refine sT ?_;refine sF ?_;refine zaw (zvw zz1 zz1) (zw ?_);refine zam zz5 (zw ?_);refine zaw (z':=(((i+j) / 2:Nat):Int)) ?_ ?_
   . show W (((i:Int)+j) / 2)=_
     rw [zbu (by omega) (by omega)];omega
   (conv=>whnf);refine zry ((i+j) / 2) rfl hlt (zw ?_)
   (refine cZ ?_;refine dL (hg l[(i+j) / 2]) ?_)
   by_cases c2:cmp l[(i+j) / 2]<0
   . have hk:=(hm _ hlt).1 c2
     refine sT ?_;refine sF ?_;exact ⟨⟨((i+j) / 2+1,j),hk,h2,h3⟩,(zqg []),by dsimp only;omega⟩
   . have hk:¬ (i+j) / 2<K:=fun h=>c2 ((hm _ hlt).2 h)
     refine sN ?_;exact ⟨⟨(i,(i+j) / 2),h1,by dsimp only;omega,by dsimp only;omega⟩,(zqg []),by dsimp only;omega⟩
 . have hi:i=K:=by omega
   subst hi;refine sN ?_;by_cases c2:i<l.length
   . refine sT ?_
     refine zry i rfl c2 (zw ?_)
     (refine cZ ?_;refine dL (hg l[i]) ?_)
     rw [zhw,zy8 c2]
   . refine sN ?_
     rw [zhw,zy25 (by omega)]
theorem zqa (l:List Span) (i j:Nat) (hij:i<=j) (hj:j<=l.length) (hb:l.length<2 ^ 40) :
 zbg Try.prog 43 [.osl 1000 2 0 (l.map Span.row).length,i64 i,i64 j] (lk .free [(1000,.live (.row 61 2 (l.map Span.row)))])
  (.osl 1000 2 0 (l.length-(j-i))) (lk .free [(1000,.live (.row 61 2 ((l.take i++l.drop j).map Span.row++List.replicate (j-i) [pi 0,pi 0])))]):=by
 refine zdv mixed Try.func43 zz5 [1000] zih ?_;have hlr:(l.map Span.row).length=l.length:=by simp
 (conv=>whnf);refine sO ?_;by_cases h:i=j
 . subst h
   refine sT ?_;refine zbe [(1000,some 1000)] rfl rfl ⟨rfl,trivial⟩ rfl ?_ ⟨⟨rfl,.inl ⟨1000,rfl,?_⟩⟩,trivial⟩
   . show HV.osl 1000 2 0 (l.length-(i-i))=HV.osl 1000 2 0 (l.map Span.row).length
     rw [hlr,Nat.sub_self];rfl
   . show zaa.live (.row _ 2 (l.map Span.row))=zaa.live (.row _ 2 _)
     rw [zy41,Nat.sub_self,List.replicate_zero,zy56]
 . refine sN ?_
   refine sO ?_;refine sO ?_;refine ⟨_,rfl,?_,?_⟩
   . rw [hlr];omega
   (conv=>whnf);refine zam zz4 ?_;(conv=>whnf);refine zdw ?_ ?_
   . kernel_rfl
   (conv=>whnf);refine zam zz12 ?_;(conv=>whnf);refine zam zz12 ?_;(conv=>whnf);refine zbe [(1000,some 1000)] rfl rfl ⟨rfl,trivial⟩ rfl ?_ ⟨⟨rfl,.inl ⟨1000,rfl,?_⟩⟩,trivial⟩
   . show HV.osl 1000 2 0 _=HV.osl 1000 2 0 _
     congr 1;simp;omega
   . refine (congrArg (fun r=>zaa.live (.row _ 2 r)) (ztq (rows:=l.map Span.row) (i:=i) (j:=j) (z:=[pi 0,pi 0]) hij (by rw [hlr];exact hj) ?_ ?_ ?_ ?_ ?_)).trans ?_
     . simp<;>omega
     . simp<;>omega
     . simp<;>omega
     . simp;omega
     . simp;omega
     . rw [zy36,List.map_take,zy64];rfl
theorem ztp (l:List Span) (i j:Nat) (hij:i<=j) (hj:j<=l.length) (hb:l.length<2 ^ 40) :
 zbg Try.prog 43 [.own 1000,i64 i,i64 j] (lk .free [(1000,.live (.row 61 2 (l.map Span.row)))])
  (.own 0) (lk .free [(1000,.dead),(0,.live (.row 61 2 ((l.take i++l.drop j).map Span.row)))]):=by
 have h:=zlo (d:=0) (L:=[]) (rows:=(l.take i++l.drop j).map Span.row++List.replicate (j-i) [pi 0,pi 0]) (zrk (zqa l i j hij hj hb)) (.inl rfl) zz4 rfl zz5
 rwa [zy73 zz4] at h
theorem zde (a b:List Span) (x:Span) (i j:Int) (hi:i=a.length) (hj:j=a.length+1) (hb:(a++x::b).length<2 ^ 40) :
 zbg Try.prog 43 [.own 1000,i64 i,i64 j] (lk .free [(1000,.live (.row 61 2 ((a++x::b).map Span.row)))])
  (.own 0) (lk .free [(1000,.dead),(0,.live (.row 61 2 ((a++b).map Span.row)))]):=by
 subst hi hj;have h:=ztp (a++x::b) a.length (a.length+1) zz1 zz0 hb
 rwa [List.take_left,show (a++x::b).drop (a.length+1)=b by rw [<- List.drop_drop,List.drop_left];rfl,Int.natCast_add] at h
theorem znm {inp out:List Span} (a b:List Span) (x:Span) (i j:Int) (h1:inp=a++x::b) (h2:out=a++b) (hi:i=a.length) (hj:j=a.length+1) (hb:inp.length<2 ^ 40) :
 zbg Try.prog 43 [.own 1000,i64 i,i64 j] (lk .free [(1000,.live (.row 61 2 (inp.map Span.row)))])
  (.own 0) (lk .free [(1000,.dead),(0,.live (.row 61 2 (out.map Span.row)))]):=by
 subst h1 h2;exact zde a b x i j hi hj hb
theorem zxc {H:Nat->zaa} {i1 i2 n o l:Nat} {t1 n1 t2 n2 c:Nat} {r1 r2:List (List PV)} (h1:H i1=.live (.row t1 n1 r1)) (h2:H i2=.live (.buf t2 n2 r2 c)) (hne:i1≠i2) :
 Ov Try.prog 46 [.own i1,.osl i2 n o l] H ⟨zbp false,[],[i1,i2]⟩:=by
 obtain ⟨inf,hi,hs⟩:=zy3.1 (show (Try.prog.info? 61).map (·.size)=some 2 by kernel_rfl);exact ⟨Try.f46,61,inf,_,_,i1,i2,_,_,Try.func46,rfl,by decide,by kernel_rfl,by kernel_rfl,⟨58,rfl,by kernel_rfl⟩,hi,by rw [hs];decide,rfl,.inl rfl,.inr ⟨_,_,_,rfl⟩,hne,h1,h2,by simp,by simp,rfl⟩
theorem zme (l:List Span) (v:Span) (hb:l.length<2 ^ 40) :
 zbg Try.prog 42 [.own 1000,i64 l.length,.own 1001] (lk .free [(1000,.live (.row 61 2 (l.map Span.row))),(1001,.live (.row 61 2 [v.row]))])
  (.own 0) (lk .free [(1000,.dead),(0,.live (.row 61 2 ((l++[v]).map Span.row))),(1001,.dead)]):=by
 refine zdv mixed Try.func42 zz5 [1000,1001] (fun i=>by rcases zih (L:=[(1000,zaa.live (.row 61 2 (l.map Span.row))),(1001,.live (.row 61 2 [v.row]))]) i with h | h;exact .inl h;exact .inr h) ?_;have hlr:(l.map Span.row).length=l.length:=by simp
 (conv=>whnf);refine sO ?_;refine sT ?_;refine zam (c:=((l.map Span.row).length+[v.row].length)*16<=140737488355328) zz4 (zw ?_);refine zbe [(1000,some 1000),(0,some 25),(1001,some 1001)] rfl rfl ⟨rfl,rfl,trivial⟩ rfl rfl ⟨rfl,⟨rfl,.inl ⟨25,rfl,?_⟩⟩,rfl,trivial⟩;exact zxg (f:=Span.row) rfl rfl
theorem zmf (l:List Span) (k:Nat) (v:Span) (hk:k<l.length) (hb:l.length<2 ^ 40) :
 zbg Try.prog 42 [.own 1000,i64 k,.own 1001] (lk .free [(1000,.live (.row 61 2 (l.map Span.row))),(1001,.live (.row 61 2 [v.row]))])
  (.own 0) (lk .free [(1000,.dead),(0,.live (.row 61 2 ((l.take k++v::l.drop k).map Span.row))),(1001,.dead)]):=by
 have hlr:(l.map Span.row).length=l.length:=by simp
 refine zrj (by intro h;rw [h] at hlr;simp at hlr;omega) fun cap hc1 hc2=>?_
 rw [hlr] at hc1;by_cases hc:l.length+1<=cap
 . have hw:=zlo (P:=Try.prog) (f:=42) (args:=[.osl 1000 2 0 (l.map Span.row).length,i64 k,.own 1001]) (H:=lk .free [(1000,.live (.buf 61 2 (l.map Span.row) cap)),(1001,.live (.row 61 2 [v.row]))])
    (id:=1000) (d:=0) (b:=.buf 61 2 ((l.take k++v::l.drop k).map Span.row) cap) (t:=61) (n:=2) (k:=l.length+1) (rows:=(l.take k++v::l.drop k).map Span.row) (L:=[(1001,.dead)]) ?_ (.inr ⟨cap,rfl⟩) zz4 rfl zz5
   . rwa [zy38 zz4] at hw
   refine zdv mixed Try.func42 zz5 [1000,1001] (fun i=>by rcases zih (L:=[(1000,zaa.live (.buf 61 2 (l.map Span.row) cap)),(1001,.live (.row 61 2 [v.row]))]) i with h | h;exact .inl h;exact .inr h) ?_;(conv=>whnf);refine sO ?_;refine sN ?_;refine zbs (z:=((l.map Span.row).length:Int)+1) (zbu zz1 zz1) (zw ?_);refine zam zz1 (zw ?_);refine sN ?_;refine zbs (z:=((l.map Span.row).length:Int)+1) (zbu zz1 zz1) (zw ?_);refine sO ?_;refine zaw (z':=((k+1:Nat):Int)) ?_ ?_
   . show W ((k:Int)+1)=_
     rw [zbu (by omega) (by omega)];push_cast;rfl
   (conv=>whnf);refine sO ?_;refine ztx (zxc rfl rfl zz5) (zw ?_);refine zaw (z':=((k+1:Nat):Int)) ?_ ?_
   . show W ((k:Int)+1)=_
     rw [zbu (by omega) (by omega)];push_cast;rfl
   (conv=>whnf);refine sO ?_;refine sO ?_;refine zsb (o':=k) (n':=l.length-k) zz0 ?_ ?_
   . show min _ _=l.length-k
     simp;omega
   refine zmb (l:=l) zz1 ?_;(conv=>whnf);refine sOm ?_;refine zdw ?_ ?_
   . kernel_rfl
   (conv=>whnf);refine sO ?_;refine zam zz12 (zw ?_);refine zbe [(1000,some 1000),(1001,some 1001)] rfl rfl ⟨rfl,rfl,trivial⟩ rfl ?_ ⟨⟨rfl,.inl ⟨1000,rfl,?_⟩⟩,rfl,trivial⟩
   . show HV.osl 1000 2 0 _=HV.osl 1000 2 0 _
     congr 1;simp
   . refine (congrArg (fun r=>zaa.live (.buf _ 2 r cap)) (zui (rows:=l.map Span.row) (k:=k) zz1 ?_ ?_ ?_ ?_)).trans ?_
     . simp<;>omega
     . rw [zy64]
     . simp<;>omega
     . simp<;>omega
     . refine congrArg (fun r=>zaa.live (.buf _ 2 r cap)) (zyp (f:=Span.row) ?_)
       simp;omega
 . refine zdv mixed Try.func42 zz5 [1000,1001] (fun i=>by rcases zih (L:=[(1000,zaa.live (.buf 61 2 (l.map Span.row) cap)),(1001,.live (.row 61 2 [v.row]))]) i with h | h;exact .inl h;exact .inr h) ?_
   (conv=>whnf);refine sO ?_;refine sN ?_;refine zbs (z:=((l.map Span.row).length:Int)+1) (zbu zz1 zz1) (zw ?_);refine zam zz1 (zw ?_);refine sT ?_;refine sO ?_;refine zbs (z:=((l.map Span.row).length:Int)+1) (zbu zz1 zz1) (zw ?_);refine zaw (z':=((l.length+1-k:Nat):Int)) ?_ ?_
   . show W (((l.map Span.row).length:Int)+1-k)=_
     rw [zbu (by omega) (by omega)];omega
   (conv=>whnf);refine zam (show 0<=_/\_<=_/\_<_/\_<=_/\(_:Int)*16<=(140737488355328:Int) from ?_) ?_
   . simp;omega
   (conv=>whnf);refine zam ?_ ?_
   . simp;omega
   (conv=>whnf);refine zam zz12 (zw ?_);refine zaw (z':=((k+1:Nat):Int)) ?_ ?_
   . show W ((k:Int)+1)=_
     rw [zbu (by omega) (by omega)];push_cast;rfl
   (conv=>whnf);refine zam zz12 (zw ?_);refine zam zz12 (zw ?_);refine zsb (o':=k) (n':=l.length-k) zz0 ?_ ?_
   . show min _ _=l.length-k
     simp [zav];omega
   refine zmb (l:=l) zz1 ?_;(conv=>whnf);refine zam zz12 (zw ?_);refine zdw ?_ ?_
   . kernel_rfl
   (conv=>whnf);refine zbe [(1000,some 1000),(0,some 40),(1001,some 1001)] rfl rfl ⟨rfl,rfl,trivial⟩ rfl rfl ⟨rfl,⟨rfl,.inl ⟨40,rfl,?_⟩⟩,rfl,trivial⟩;refine (congrArg (fun r=>zaa.live (.row _ 2 r)) (zuh (rows:=l.map Span.row) (k:=k) zz1 ?_ ?_ ?_ ?_ ?_)).trans ?_
   . simp
   . simp
   . simp;omega
   . simp
   . rw [zy64]
   . refine congrArg (fun r=>zaa.live (.row _ 2 r)) (zyp (f:=Span.row) ?_)
     simp;omega
theorem znz (a b:List Span) (v:Span) (k:Int) (hk:k=a.length) (hb:(a++b).length<2 ^ 40) :
 zbg Try.prog 42 [.own 1000,i64 k,.own 1001] (lk .free [(1000,.live (.row 61 2 ((a++b).map Span.row))),(1001,.live (.row 61 2 [v.row]))])
  (.own 0) (lk .free [(1000,.dead),(0,.live (.row 61 2 ((a++v::b).map Span.row))),(1001,.dead)]):=by
 subst hk;cases b with
 | nil =>
  rw [zy56] at hb ⊢;exact zme a v hb
 | cons x b =>
  have h:=zmf (a++x::b) a.length v zz0 hb
  rwa [List.take_left,List.drop_left] at h
end Go.HL
namespace Go.HL
namespace Ser
def zmu:List Span->Prop
 | []=>True
 | s::r=>s.lo<=s.hi/\-9223372036854775808<=s.lo/\s.hi<=9223372036854775807/\(∀ t∈r,s.hi+1<t.lo)/\zmu r
theorem zhn:∀ {a b:List Span},zmu (a++b)↔zmu a/\zmu b/\∀ s∈a,∀ t∈b,s.hi+1<t.lo
 | [],b=>by simp [zmu]
 | s::a,b=>by
  simp only [zy62,zmu,zhn (a:=a) (b:=b),zy7,zy5]
  constructor
  . rintro ⟨h1,h2,h3,h4,h5,h6,h7⟩
    exact ⟨⟨h1,h2,h3,fun t ht=>h4 t (.inl ht),h5⟩,h6,fun x hx t ht=>by rcases hx with rfl | hx;exact h4 t (.inr ht);exact h7 x hx t ht⟩
  . rintro ⟨⟨h1,h2,h3,h4,h5⟩,h6,h7⟩
    exact ⟨h1,h2,h3,fun t ht=>by rcases ht with ht | ht;exact h4 t ht;exact h7 s (.inl rfl) t ht,h5,h6,fun x hx t ht=>h7 x (.inr hx) t ht⟩
theorem zet:∀ {l:List Span},zmu l->∀ s∈l,s.lo<=s.hi/\-9223372036854775808<=s.lo/\s.hi<=9223372036854775807
 | s::r,h,t,ht=>by
  rcases zy5.1 ht with rfl | ht
  . exact ⟨h.1,h.2.1,h.2.2.1⟩
  . exact zet h.2.2.2.2 t ht
theorem zwg {l:List Span} {n:Int}:has l n=true↔∃ s∈l,s.lo<=n/\n<=s.hi:=by
 simp [has,zy40]
theorem zrn {l:List Span} {n:Int}:has l n=false↔∀ s∈l,¬ (s.lo<=n/\n<=s.hi):=by
 rw [<- Bool.not_eq_true,zwg];simp
theorem zwf (a b:List Span) (n:Int):has (a++b) n=(has a n||has b n):=by simp [has]
theorem ztv (s:Span) (b:List Span) (n:Int):has (s::b) n=((decide (s.lo<=n)&&decide (n<=s.hi))||has b n):=by simp [has]
def zqp (n:Int) (s:Span):Bool:=decide (s.hi<n)
def below (l:List Span) (n:Int):List Span:=l.takeWhile (zqp n)
def zec (l:List Span) (n:Int):List Span:=l.dropWhile (zqp n)
def zxo (n:Int) (a:List Span):List Span×Int:=match a.getLast? with
 | some s=>if s.hi=n-1 then (a.dropLast,s.lo) else (a,n)
 | none=>(a,n)
def zto (n:Int):List Span->Int×List Span
 | t::r=>if t.lo=n+1 then (t.hi,r) else (n,t::r)
 | []=>(n,[])
def add (l:List Span) (n:Int):List Span :=
 if has l n then l else (zxo n (below l n)).1++⟨(zxo n (below l n)).2,(zto n (zec l n)).1⟩::(zto n (zec l n)).2
theorem split (l:List Span) (n:Int):l=below l n++zec l n:=(List.takeWhile_append_dropWhile).symm
theorem zke {l:List Span} {n:Int}:∀ s∈below l n,s.hi<n:=fun s hs=>by
 have:=zy19.1 (List.all_takeWhile (p:=zqp n) (l:=l)) s hs
 simpa [zqp] using this
theorem ztk {l:List Span} {n:Int} (h:zmu l) (hn:has l n=false):∀ s∈zec l n,n<s.lo:=by
 intro s hs;have hsp:=split l n;have hr:zmu (zec l n):=by rw [hsp] at h;exact (zhn.1 h).2.1
 have hno:∀ t∈zec l n,¬ (t.lo<=n/\n<=t.hi):=fun t ht=>zrn.1 hn t (by rw [hsp];exact List.mem_append_right _ ht)
 have hhd:∀ t r,zec l n=t::r->¬ t.hi<n:=by
  intro t r e hlt;have:=zy67 (zqp n) l;rw [show l.dropWhile (zqp n)=t::r from e] at this;simp [zqp] at this;omega
 cases ha:zec l n with
 | nil=>rw [ha] at hs;simp at hs
 | cons t r =>
  have h1:=hhd t r ha;have h2:=hno t (by rw [ha];simp);rw [ha] at hr hs;have h3:=hr.1;rcases zy5.1 hs with rfl | hs
  . omega
  . have:=hr.2.2.2.1 s hs;omega
theorem zrf {l:List Span} {n:Int} (h:zmu l):∀ (i:Nat) (hi:i<l.length),l[i].hi<n↔i<(below l n).length:=by
 intro i hi;have hsp:=split l n
 constructor
 . intro hlt
   apply Classical.byContradiction;intro hge;have hmem:l[i]∈zec l n:=by
    have e:l[i]?=(zec l n)[i-(below l n).length]?:=by
     conv=>lhs;rw [hsp]
     exact zy17 zz1
    rw [zy8 hi] at e;exact zy20 e.symm
   have hr:zmu (zec l n):=by rw [hsp] at h;exact (zhn.1 h).2.1
   cases ha:zec l n with
   | nil=>rw [ha] at hmem;simp at hmem
   | cons t r =>
    have h1:¬ t.hi<n:=by
     exact yy31
    rw [ha] at hr hmem;rcases zy5.1 hmem with e | hm
    . rw [e] at hlt;exact h1 hlt
    . have h4:=hr.2.2.2.1 _ hm
      have h5:=(zet hr.2.2.2.2 _ hm).1;have:=hr.1;omega
 . intro hlt
   have e:l[i]?=(below l n)[i]?:=by
    conv=>lhs;rw [hsp]
    exact zy18 hlt
   rw [zy8 hi] at e;exact zke _ (zy20 e.symm)
end Ser
namespace Ser
def cmp (n:Int) (s:Span):Int:=if s.hi<n then -1 else if s.lo>n then 1 else 0
theorem zvc (n:Int) (s:Span):zbg Try.prog 41 [s.hv,i64 n] zao (i64 (cmp n s)) zao:=by
 refine zbm mixed Try.func41 zz5 ?_;(conv=>whnf);refine zbr (fun c=>?_) (fun c=>?_)
 . have c:s.hi<n:=by simpa using c
   (conv=>whnf);rw [cmp,zy13 c]
 . have c:¬ s.hi<n:=by simpa using c
   (conv=>whnf);refine zbr (fun c2=>?_) (fun c2=>?_)
   . have c2:s.lo>n:=by simpa using c2
     (conv=>whnf);rw [cmp,zy12 c,zy13 c2]
   . have c2:¬ s.lo>n:=by simpa using c2
     (conv=>whnf);rw [cmp,zy12 c,zy12 c2]
theorem zxv {n:Int} {s:Span}:cmp n s<0↔s.hi<n:=by
 unfold cmp;split
 . simp [*]
 . split<;>simp [*]
theorem found {l:List Span} {n:Int} (h:zmu l):zhw (cmp n) l (below l n).length=has l n:=by
 have hsp:=split l n;have e:l[(below l n).length]?=(zec l n)[0]?:=by
  conv=>lhs;arg 1;rw [hsp]
  rw [zy17 (zy39 _),Nat.sub_self]
 have e2:has l n=has (zec l n) n:=by
  conv=>lhs;arg 1;rw [hsp]
  rw [zwf,zrn.2 fun s hs=>by have:=zke s hs;omega,Bool.false_or]
 rw [zhw,e,e2];cases ha:zec l n with
 | nil=>rfl
 | cons t r =>
  have hr:zmu (zec l n):=by rw [hsp] at h;exact (zhn.1 h).2.1
  rw [ha] at hr;have h1:¬ t.hi<n:=by
   exact yy31
  have h2:has r n=false:=zrn.2 fun s hs=>by have:=hr.2.2.2.1 s hs;omega
  rw [ztv,h2,Bool.or_false];show (cmp n t==0)=_;rw [cmp,zy12 h1];by_cases c:t.lo>n
  . rw [zy13 c,decide_eq_false (by omega)];rfl
  . rw [zy12 c,decide_eq_true (by omega),decide_eq_true (by omega)];rfl
theorem zcf (l:List Span) (hb:l.length<2 ^ 40):zbg Try.prog 39 [.p (.sl 2 (l.map Span.row))] zao (.own 0) (lk .free [(0,.live (.row 61 2 (l.map Span.row)))]):=by
 refine zdv mixed Try.func39 zz5 [] (fun _=>.inl rfl) ?_;(conv=>whnf);intro b hn;(conv=>whnf);refine zbr (fun c=>?_) (fun c=>?_)
 . conv=>whnf
   refine zbe [(0,none)] rfl rfl trivial rfl rfl ⟨⟨rfl,.inr ⟨rfl,hn c⟩⟩,trivial⟩
 . conv=>whnf
   refine zam (c:=(([]:List (List PV)).length+(l.map Span.row).length)*16<=140737488355328) zz4 ?_;(conv=>whnf);refine zbe [(0,some 7)] rfl rfl trivial rfl rfl ⟨⟨rfl,.inl ⟨7,rfl,?_⟩⟩,trivial⟩
   rfl
theorem zfg {α:Type} (l:List α):l=[]\/∃ a x,l=a++[x]:=by
 rcases List.eq_nil_or_concat l with h | ⟨a,x,h⟩
 . exact .inl h
 . exact .inr ⟨a,x,by rw [h,List.concat_eq_append]⟩
theorem zdm (n:Int) (a:List Span) (s:Span):zxo n (a++[s])=if s.hi=n-1 then (a,s.lo) else (a++[s],n):=by
 simp [zxo]
theorem zky {α:Type} {t n:Nat} {f:α->List PV} {a b:List α} {x y:α} {k:Nat} {r:List PV} (hk:k=a.length) (hr:f y=r) :
 zaa.live (.row t n (((a++[x]++b).map f).set k r))=zaa.live (.row t n ((a++[y]++b).map f)):=by
 rw [zy44,zy44];exact (zsz hk hr).symm
theorem zjw {α:Type} {t n:Nat} {f:α->List PV} {a b:List α} (h:a=b):zaa.live (.row t n (a.map f))=zaa.live (.row t n (b.map f)):=by rw [h]
theorem ztd (A B:List Span) (n:Int) (hl:zmu (A++B)) (hA:below (A++B) n=A) (hB:zec (A++B) n=B) (hb:(A++B).length<2 ^ 39) (h1:-9223372036854775808<=n) (h2:n<=9223372036854775807) :
 zbg Try.prog 34 [zoj (A++B),i64 n] zao (.own 0) (lk .free [(0,.live (.row 61 2 ((add (A++B) n).map Span.row)))]):=by
 refine zdv mixed Try.func34 zz5 [] (fun _=>.inl rfl) ?_;have hlen:(A++B).length=A.length+B.length:=zy27;have hf:=found (n:=n) hl;rw [hA] at hf;(conv=>whnf)
 (refine zcb [(0,9)]  ?_;(conv=>whnf);refine dO (zcf (A++B) zz1) ?_)
 (refine cZ ?_;refine dL (zxh (zvc n) (A++B) A.length zz1 (fun i h=>by rw [zxv,zrf hl i h,hA]) zz1) ?_)
 rw [hf];cases hn:has (A++B) n with
 | true =>
  have ha:add (A++B) n=A++B:=by rw [add,hn];rfl
  rw [ha];(conv=>whnf);refine zbe [(0,some 9)] rfl rfl trivial rfl rfl ⟨⟨rfl,.inl ⟨9,rfl,rfl⟩⟩,trivial⟩
 | false =>
  have ha:add (A++B) n=(zxo n A).1++⟨(zxo n A).2,(zto n B).1⟩::(zto n B).2:=by rw [add,hn,hA,hB];rfl
  rw [ha];(conv=>whnf);have hAl:A.length<2 ^ 39:=by omega
  have hlow:∀ s∈A,s.hi<n:=by have:=zke (l:=A++B) (n:=n);rwa [hA] at this
  have habv:∀ s∈B,n<s.lo:=by have:=ztk hl hn;rwa [hB] at this
  (refine zdn [] [(1000,9),(1001,23)] [(0,24)] ?_;(conv=>whnf);refine dG (znz A B ⟨n,n⟩ _ rfl zz1) ?_ ⟨rfl,rfl,rfl,⟨zz21,⟨zz21,trivial⟩⟩,⟨⟨rfl,rfl⟩,trivial⟩,rfl,rfl,rfl⟩)
  cases B with
  | nil =>
   refine zaw (z':=((A.length+1:Nat):Int)) zz3 (zw ?_);refine sN ?_;have hR:zto n []=(n,[]):=rfl;rw [hR];rcases zfg A with rfl | ⟨A',s,rfl⟩
   . conv=>whnf
     try refine sG ?_
     exact yy3
   . have hs:s.hi<n:=hlow s zz0
     have hsl:(A'++[s]).length=A'.length+1:=by simp
     have hs2:=zet hl s zz0;refine sT ?_;refine zaw (z':=((A'.length:Nat):Int)) zz2 (zw ?_);refine sOm ?_;refine zbh (show A'++[s]++⟨n,n⟩::[]=A'++s::⟨n,n⟩::[] by simp) rfl (zw ?_);refine zbs (z:=n-1) (zbu zz1 zz1) (zw ?_);by_cases he:s.hi=n-1
     . refine sT ?_
       refine zaw (z':=((A'.length:Nat):Int)) zz2 (zw ?_);refine sOm ?_;refine zbh (show A'++[s]++⟨n,n⟩::[]=(A'++[s])++⟨n,n⟩::[] from rfl) rfl (zw ?_);refine sOm ?_;refine zbh (show A'++[s]++⟨n,n⟩::[]=A'++s::⟨n,n⟩::[] by simp) zz0 (zw ?_);refine zaw (z':=((A'.length+2:Nat):Int)) zz6 (zw ?_);refine zdn [] [(1000,24)] [(0,84)] (zw ?_);refine ⟨_,_,_,_,zde (A'++[⟨s.lo,n⟩]) ([]) ⟨n,n⟩ _ _ zz0 zz4 zz18,⟨rfl,rfl,rfl,⟨⟨rfl,_,rfl,.inl ⟨rfl,?_⟩⟩,trivial⟩,⟨⟨rfl,rfl⟩,trivial⟩,rfl,rfl,rfl⟩,?_⟩
       . exact zky (f:=Span.row) (a:=A') (b:=⟨n,n⟩::[]) (x:=s) (y:=⟨s.lo,n⟩) zz0 rfl
       exact yy4
     . refine sN ?_
       rw [zdm,zy12 he];exact yy3
  | cons x B =>
   have hx:=habv x zz0;have hx2:=zet hl x zz0;have hbl:(x::B).length=B.length+1:=rfl;refine zaw (z':=((A.length+1:Nat):Int)) zz3 (zw ?_);refine sT ?_;refine zaw (z':=((A.length+1:Nat):Int)) zz3 (zw ?_);refine sOm ?_;refine zbh (show A++⟨n,n⟩::x::B=(A++[⟨n,n⟩])++x::B by simp) zz0 (zw ?_);refine zbs (z:=n+1) (zbu zz1 zz1) (zw ?_);by_cases hr:x.lo=n+1
   . refine sT ?_
     have hR:zto n (x::B)=(x.hi,B):=by simp [zto,hr]
     rw [hR];refine zaw (z':=((A.length+1:Nat):Int)) zz3 (zw ?_);refine sOm ?_;refine zbh (show A++⟨n,n⟩::x::B=(A++[⟨n,n⟩])++x::B by simp) zz0 (zw ?_);refine sOm ?_;refine zbh (show A++⟨n,n⟩::x::B=A++⟨n,n⟩::x::B from rfl) zz0 (zw ?_);refine zaw (z':=((A.length+1:Nat):Int)) zz3 (zw ?_);refine zaw (z':=((A.length+2:Nat):Int)) (by show W ((A.length:Int)+2)=_;rw [zbu (by omega) (by omega)];push_cast;rfl) (zw ?_);refine zdn [] [(1000,24)] [(0,56)] (zw ?_);refine ⟨_,_,_,_,znm (out:=A++⟨n,x.hi⟩::B) (A++[⟨n,x.hi⟩]) B x _ _ rfl zz0 zz0 zz4 zz18,⟨rfl,rfl,rfl,⟨⟨rfl,_,rfl,.inl ⟨rfl,?_⟩⟩,trivial⟩,⟨⟨rfl,rfl⟩,trivial⟩,rfl,rfl,rfl⟩,?_⟩
     . refine (zsz (f:=Span.row) (a:=A) (b:=x::B) (x:=⟨n,n⟩) (y:=⟨n,x.hi⟩) zz0 rfl).symm.trans (zjw zz0)
     conv=>whnf
     try refine sG ?_
     rcases zfg A with rfl | ⟨A',s,rfl⟩
     . conv=>whnf
       try refine sG ?_
       refine zbe [(0,some 56)] rfl rfl trivial rfl rfl ⟨⟨rfl,.inl ⟨56,rfl,rfl⟩⟩,trivial⟩
     . have hs:s.hi<n:=hlow s zz0
       have hsl:(A'++[s]).length=A'.length+1:=by simp
       have hs2:=zet hl s zz0;refine sT ?_;refine zaw (z':=((A'.length:Nat):Int)) zz2 (zw ?_);refine sOm ?_;refine zbh (show A'++[s]++⟨n,x.hi⟩::B=A'++s::⟨n,x.hi⟩::B by simp) rfl (zw ?_);refine zbs (z:=n-1) (zbu zz1 zz1) (zw ?_);by_cases he:s.hi=n-1
       . refine sT ?_
         refine zaw (z':=((A'.length:Nat):Int)) zz2 (zw ?_);refine sOm ?_;refine zbh (show A'++[s]++⟨n,x.hi⟩::B=(A'++[s])++⟨n,x.hi⟩::B from rfl) rfl (zw ?_);refine sOm ?_;refine zbh (show A'++[s]++⟨n,x.hi⟩::B=A'++s::⟨n,x.hi⟩::B by simp) zz0 (zw ?_);refine zaw (z':=((A'.length+2:Nat):Int)) zz6 (zw ?_);refine zdn [] [(1000,56)] [(0,84)] (zw ?_);refine ⟨_,_,_,_,zde (A'++[⟨s.lo,x.hi⟩]) (B) ⟨n,x.hi⟩ _ _ zz0 zz4 zz18,⟨rfl,rfl,rfl,⟨⟨rfl,_,rfl,.inl ⟨rfl,?_⟩⟩,trivial⟩,⟨⟨rfl,rfl⟩,trivial⟩,rfl,rfl,rfl⟩,?_⟩
         . exact zky (f:=Span.row) (a:=A') (b:=⟨n,x.hi⟩::B) (x:=s) (y:=⟨s.lo,x.hi⟩) zz0 rfl
         exact yy4
       . refine sN ?_
         rw [zdm,zy12 he];refine zbe [(0,some 56)] rfl rfl trivial rfl rfl ⟨⟨rfl,.inl ⟨56,rfl,rfl⟩⟩,trivial⟩
   . refine sN ?_
     have hR:zto n (x::B)=(n,x::B):=by simp [zto,hr]
     rw [hR];rcases zfg A with rfl | ⟨A',s,rfl⟩
     . conv=>whnf
       try refine sG ?_
       exact yy3
     . have hs:s.hi<n:=hlow s zz0
       have hsl:(A'++[s]).length=A'.length+1:=by simp
       have hs2:=zet hl s zz0;refine sT ?_;refine zaw (z':=((A'.length:Nat):Int)) zz2 (zw ?_);refine sOm ?_;refine zbh (show A'++[s]++⟨n,n⟩::x::B=A'++s::⟨n,n⟩::x::B by simp) rfl (zw ?_);refine zbs (z:=n-1) (zbu zz1 zz1) (zw ?_);by_cases he:s.hi=n-1
       . refine sT ?_
         refine zaw (z':=((A'.length:Nat):Int)) zz2 (zw ?_);refine sOm ?_;refine zbh (show A'++[s]++⟨n,n⟩::x::B=(A'++[s])++⟨n,n⟩::x::B from rfl) rfl (zw ?_);refine sOm ?_;refine zbh (show A'++[s]++⟨n,n⟩::x::B=A'++s::⟨n,n⟩::x::B by simp) zz0 (zw ?_);refine zaw (z':=((A'.length+2:Nat):Int)) zz6 (zw ?_);refine zdn [] [(1000,24)] [(0,84)] (zw ?_);refine ⟨_,_,_,_,zde (A'++[⟨s.lo,n⟩]) (x::B) ⟨n,n⟩ _ _ zz0 zz4 zz18,⟨rfl,rfl,rfl,⟨⟨rfl,_,rfl,.inl ⟨rfl,?_⟩⟩,trivial⟩,⟨⟨rfl,rfl⟩,trivial⟩,rfl,rfl,rfl⟩,?_⟩
         . exact zky (f:=Span.row) (a:=A') (b:=⟨n,n⟩::x::B) (x:=s) (y:=⟨s.lo,n⟩) zz0 rfl
         exact yy4
       . refine sN ?_
         rw [zdm,zy12 he];exact yy3
end Ser
namespace Ser
theorem zps (l:List Span) (n:Int) (hl:zmu l) (hb:l.length<2 ^ 39) (h1:-9223372036854775808<=n) (h2:n<=9223372036854775807) :
 zbg Try.prog 34 [zoj l,i64 n] zao (.own 0) (lk .free [(0,.live (.row 61 2 ((add l n).map Span.row)))]):=by
 have hsp:=split l n;have h:=ztd (below l n) (zec l n) n (by rwa [<- hsp]) (by rw [<- hsp]) (by rw [<- hsp]) (by rwa [<- hsp]) h1 h2
 rwa [<- hsp] at h
def up:List Span->Int->Int×List Span
 | [],n=>(n,[])
 | s::r,n=>if s.lo<=n+1 then up r (if s.hi>n then s.hi else n) else (n,s::r)
def wnd:List Span->List Span->HV
 | [],_=>.own 900
 | _::a,b=>.osl 900 2 (a.length+1) b.length
theorem zpg {α:Type} {f:α->List PV} {l a b c:List α} {o n:Nat} {K:List (List PV)->Prop} (h:l=a++b++c) (ho:o=a.length) (hn:n=b.length) (hk:K (b.map f)):zie (l.map f) o n K:=by
 subst h ho hn;refine ⟨_,rfl,by simp,?_⟩
 rwa [<- zy64,<- List.map_take,zy44,List.drop_left,List.take_left]
theorem zvq {i s o o' n n':Nat} (ho:o=o') (hn:n=n'):HV.osl i s o n=.osl i s o' n':=by rw [ho,hn]
theorem zxi (l:List Span) (n:Int) (hl:∀ s∈l,s.hi<=1099511627776) (hb:l.length<2 ^ 39) (h1:-1099511627776<=n) (h2:n<=1099511627776) :
 zbg Try.prog 35 [zoj l,i64 n] zao (.tup [i64 (up l n).1,.own 0]) (lk .free [(0,.live (.row 61 2 ((up l n).2.map Span.row)))]):=by
 refine zdv mixed Try.func35 zz5 [] (fun _=>.inl rfl) ?_;generalize hR:up l n=R;(conv=>whnf)
 (refine zcb [(0,8)]  ?_;(conv=>whnf);refine dO (zcf l zz1) ?_)
 refine ⟨{x:(List Span×List Span)×Int // l=x.1.1++x.1.2/\R=up x.1.2 x.2/\-1099511627776<=x.2/\x.2<=1099511627776},fun | ⟨((a,b),m),_⟩=>hs 32 [(1,i64 m),(6,wnd a b)] [(900,.live (.row 61 2 (l.map Span.row)))],fun x=>x.1.1.2.length,⟨(([],l),n),rfl,hR.symm,h1,h2⟩,?_,?_⟩
 . exact (zqg [(900,some 8)])
 rintro ⟨⟨⟨a,b⟩,m⟩,h,hu,hm1,hm2⟩;dsimp only at h hu hm1 hm2;have hlen:l.length=a.length+b.length:=by rw [h];simp
 have hlm:(l.map Span.row).length=l.length:=by simp
 cases a with
 | nil =>
  rw [List.nil_append] at h;rw [zy50,zy29] at hlen;(conv=>whnf);cases b with
  | nil =>
   rw [zy50] at hlen;refine sN ?_
   (refine zcb [(0,31)]  ?_;(conv=>whnf);refine dO (zcf l zz1) ?_)
   exact yy28
  | cons s r =>
   rw [zy23] at hlen;have hs:=hl s (by rw [h];simp);refine sT ?_;refine zam zz1 (zw ?_);refine zbh (a:=[]) h rfl (zw ?_);refine sF ?_;by_cases c:s.lo<=m+1
   . refine sT ?_
     refine zam zz1 (zw ?_);refine zbh (a:=[]) h rfl (zw ?_);refine zam zz1 (zw ?_);refine ⟨⟨(([s],r),if s.hi>m then s.hi else m),h,by dsimp only;rw [hu,up,zy13 c],by dsimp only;split<;>omega,by dsimp only;split<;>omega⟩,(zya [(900,some 900)] zz7),by simp⟩
   . refine sN ?_
     (refine zcb [(0,31)]  ?_;(conv=>whnf);refine dO (zcf l zz1) ?_)
     rw [show up (s::r) m=(m,s::r) by simp [up,c]] at hu;exact yy28
 | cons t a =>
  rw [zy23] at hlen;have hal:(a.length:Int)+1=((t::a).length:Nat):=by simp
  (conv=>whnf);cases b with
  | nil =>
   rw [zy50] at hlen;(conv=>whnf)
   try refine sG ?_
   refine zcb [(0,31)] (zw ?_);refine zpg (a:=t::a) (b:=[]) (c:=[]) (by rw [h];simp) rfl rfl ?_;(conv=>whnf);refine ⟨_,_,zcf [] zz0,⟨⟨⟨rfl,rfl⟩,trivial⟩,rfl,rfl,rfl⟩,?_⟩;(conv=>whnf);subst hu;refine zbe [(0,some 31)] rfl rfl trivial rfl rfl ⟨⟨rfl,.inl ⟨31,rfl,rfl⟩⟩,trivial⟩
  | cons s r =>
   rw [zy23] at hlen;have hs:=hl s (by rw [h];simp);have hrl:(s::r).length=r.length+1:=rfl;refine sT ?_;refine zam zz1 (zw ?_);refine zbh (a:=t::a) h zz0 (zw ?_);refine sF ?_;by_cases c:s.lo<=m+1
   . refine sT ?_
     refine zam zz1 (zw ?_);refine zbh (a:=t::a) h zz0 (zw ?_);refine zam zz1 (zw ?_);refine ⟨⟨((t::(a++[s]),r),if s.hi>m then s.hi else m),by rw [h];simp,by dsimp only;rw [hu,up,zy13 c],by dsimp only;split<;>omega,by dsimp only;split<;>omega⟩,(zya [(900,some 900)] zz7),by simp⟩
   . refine sN ?_
     refine zcb [(0,31)] (zw ?_);refine zpg (a:=t::a) (b:=s::r) (c:=[]) (by rw [h];simp) rfl rfl ?_;(conv=>whnf);refine ⟨_,_,zcf (s::r) zz1,⟨⟨⟨rfl,rfl⟩,trivial⟩,rfl,rfl,rfl⟩,?_⟩;(conv=>whnf);rw [show up (s::r) m=(m,s::r) by simp [up,c]] at hu;subst hu;refine zbe [(0,some 31)] rfl rfl trivial rfl rfl ⟨⟨rfl,.inl ⟨31,rfl,rfl⟩⟩,trivial⟩
instance:DecidableEq Span:=fun a b=>decidable_of_iff (a.lo=b.lo/\a.hi=b.hi) ⟨fun h=>by cases a;cases b;simp_all,fun h=>by rw [h];simp⟩
end Ser
namespace Ser
end Ser
namespace Ser
theorem alive:zbg Try.prog 25 [] zao (zbp true) zao:=by
 have a1:=zps [⟨3,4⟩] 6 (by simp [zmu]) zz0 zz1 zz1;have a2:=zps [⟨3,4⟩,⟨6,6⟩] 5 (by simp [zmu]) zz0 zz1 zz1;have a3:=zxi [⟨3,6⟩] 2 zz0 zz0 zz1 zz1;rw [show add [⟨3,4⟩] 6=[⟨3,4⟩,⟨6,6⟩] by decide] at a1;rw [show add [⟨3,4⟩,⟨6,6⟩] 5=[⟨3,6⟩] by decide] at a2;rw [show up [⟨3,6⟩] 2=(6,[]) by decide] at a3;refine zbm mixed Try.func25 zz5 ?_;(conv=>whnf)
 (refine zcb [(0,6)] ?_;(conv=>whnf);refine dO a1 ?_)
 (refine zcb [(0,7)] ?_;(conv=>whnf);refine dO a2 ?_)
 (refine zcb [(0,10)] ?_;(conv=>whnf);refine dO a3 ?_)
 (repeat' (first | (refine zmc ?_;conv=>whnf) | (refine zam ?_ ?_;(first | kernel_rfl | decide);conv=>whnf) | (refine zdw ?_ ?_;kernel_rfl;conv=>whnf) | (refine zrq.go ?_;conv=>whnf) | (refine zep ?_;(conv=>whnf);refine ⟨_,zla _,rfl,?_⟩;conv=>whnf) | (refine zep ?_;(conv=>whnf);refine ⟨_,znb _ _,rfl,?_⟩;conv=>whnf) | (refine zep ?_;(conv=>whnf);refine ⟨_,zvd [⟨3,6⟩] _ zz0,rfl,?_⟩;conv=>whnf) | (refine zjk ?_ rfl ?_;(first | decide | kernel_rfl | omega);conv=>whnf) | (refine zox ?_ ?_;· kernel_rfl;conv=>whnf) | (refine zlu ?_ ?_;· kernel_rfl;conv=>whnf)))
 kernel_rfl
theorem zwu (a by_:Int):zbg Try.prog 8 [i64 a,i64 by_] zao (zbp true) zao:=by
 refine zbm mixed Try.func8 zz5 ?_;(conv=>whnf)
 (refine cL ?_;refine dL alive ?_)
 refine zbr (fun c1=>?_) (fun c1=>?_)
 . conv=>whnf
   try refine sG ?_
 have c1:-1000000000<=a:=by simpa using c1
 (conv=>whnf);refine zbr (fun c2=>?_) (fun c2=>?_)
 . conv=>whnf
   try refine sG ?_
 have c2:a<=1000000000:=by simpa using c2
 (conv=>whnf);refine zbr (fun c3=>?_) (fun c3=>?_)
 . conv=>whnf
   try refine sG ?_
 have c3:-32768<by_:=by simpa using c3
 (conv=>whnf);refine zbr (fun c4=>?_) (fun c4=>?_)
 . conv=>whnf
   try refine sG ?_
 have c4:by_<=32768:=by simpa using c4
 conv=>whnf
 try refine sG ?_
 refine sF ?_
 (refine cL ?_;refine dL (zla _) ?_)
 (refine cL ?_;refine dL (znb _ _) ?_)
 refine sF ?_;obtain ⟨n1,n2,n3⟩:=zwt (a:=a) (t:=tag (a+by_)) zz1 zz1;have:zvp a (tag (a+by_))=a+by_:=by unfold tag at n3;unfold tag at n1 n2 ⊢;omega
 rw [this];simp
end Ser
end Go.HL
