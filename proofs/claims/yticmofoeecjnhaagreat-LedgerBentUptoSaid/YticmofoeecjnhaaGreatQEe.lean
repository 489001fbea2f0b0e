/- Walks, contracts and laws of the law's functions: part 5. No condition. -/
import Derived.Test.YticmofoeecjnhaaGreatQEd
open Go.Proofs
set_option maxHeartbeats 32000000
set_option maxRecDepth 100000
set_option linter.unusedSimpArgs false
theorem yy145 {P:Prop} (h:P:=by
 intro hlt;have:=zy139 (ypy n) l;rw [show l.dropWhile (ypy n)=t::r from ha] at this;simp [ypy] at this;omega):P:=h
theorem yy68 {P:Prop} (h:P:=by
 refine zao [(0,some 24)] rfl rfl trivial rfl rfl ⟨⟨rfl,.inl ⟨24,rfl,rfl⟩⟩,trivial⟩):P:=h
theorem yy69 {P:Prop} (h:P:=by
 (conv=>whnf);rw [zim,zy1 he];refine zao [(0,some 84)] rfl rfl trivial rfl rfl ⟨⟨rfl,.inl ⟨84,rfl,?_⟩⟩,trivial⟩;exact zzb zz128):P:=h
theorem yy141 {P:Prop} (h:P:=by
 subst hu;refine zao [(0,some 31)] rfl rfl trivial rfl rfl ⟨⟨rfl,.inl ⟨31,rfl,?_⟩⟩,trivial⟩;exact zzb h):P:=h
theorem yy139 {P:Prop} (h:P:=by
 refine sT ?_;refine sF ?_;exact ⟨⟨((a++[s],r),put,o),zag h,ht,by simp;omega⟩,(zbi [(900,some 900)]),by simp⟩):P:=h
theorem yy25 {P:Prop} (h:P:=by
 (conv=>whnf);refine sF ?_;refine zaa (c:=(0<=(if 0>c.streams then 0 else c.streams:Int)/\(if 0>c.streams then 0 else c.streams:Int)=(if 0>c.streams then 0 else c.streams:Int)/\(if 0>c.streams then 0 else c.streams:Int)*(8:Nat)<=140737488355328)) (by split<;>omega) (zw ?_);refine sD ?_;refine zao [(0,none),(1,none),(2,some 10),(3,none)] rfl rfl trivial rfl rfl ⟨⟨rfl,.inr ⟨rfl,rfl⟩⟩,⟨rfl,.inr ⟨rfl,rfl⟩⟩,⟨rfl,.inl ⟨10,rfl,?_⟩⟩,⟨rfl,.inr ⟨rfl,rfl⟩⟩,trivial⟩;refine zar ?_;rw [show (yij c).zbp=List.replicate (max c.streams 0).toNat 0 from rfl,zy73];have:(max c.streams 0).toNat=(if 0>c.streams then 0 else c.streams:Int).toNat:=by split<;>omega
 rw [this];rfl):P:=h
theorem yy27 {P:Prop} (h:P:=by
 (conv=>whnf);refine ⟨{x:List zav×List zav // r.pieces=x.1++x.2},fun | ⟨(A,B),_⟩=>hs 21 [(3,i64 (tot A:Nat)),(7,pieces r.pieces),(8,i64 r.pieces.length),(9,i64 A.length)] [],fun x=>x.1.2.length,⟨([],r.pieces),rfl⟩,?_,?_⟩
 . exact (zbi [])
 rintro ⟨⟨A,B⟩,h⟩;dsimp only at h;have hl:r.pieces.length=A.length+B.length:=by rw [h];simp
 have ht:tot r.pieces=tot A+tot B:=by rw [h,zmr]
 (conv=>whnf);cases B with
 | cons p B =>
  rw [zy6] at hl;rw [zff] at ht;refine sT ?_;refine zaj h rfl (zw ?_);refine sF ?_;refine sF ?_;exact ⟨⟨(A++[p],B),by rw [h];simp⟩,(zaz [] zz72),by simp⟩
 | nil =>
  rw [zy12] at hl;rw [zy4] at h;refine sN ?_;rw [h]):P:=h
theorem yy92 {P:Prop} (h:P:=by
 (exact zci (pK5 [(0,some 910),(1,some 911),(2,some 912),(3,some 913)]))):P:=h
theorem yy119 {P:Prop} (h:P:=by
 (exact zci (pK5 [(0,some 1001),(1,some 1002),(2,some 1003),(3,some 1004)]))):P:=h
theorem yy58 {P:Prop} (h:P:=by
 refine sD ?_
 (exact zci [(0,some 910),(1,some 911),(2,some 912),(3,some 913)])):P:=h
theorem yy112 {P:Prop} (h:P:=by
 try refine sG ?_
 (exact zci [(0,some 910),(1,some 911),(2,some 912),(3,some 913)])):P:=h
theorem yy64 {P:Prop} (h:P:=by
 refine ⟨by dsimp only;omega,by dsimp only;omega,by dsimp only;omega,u3,u5,fun s hs=>?_,by dsimp only;omega,?_,h9,fun t htt=>by have:=h10 t htt;dsimp only;omega,h11⟩
 . have:=h6 s (u4 s hs);dsimp only;omega
 . dsimp only
   rcases u6 with u6 | ⟨s,hs,u6⟩
   . omega
   . have:=h6 s hs;omega):P:=h
theorem yy31 {P:Prop} (h:P:=by
 try refine sG ?_
 refine zaa (c:=(((a.filter fun p=>!zgl c.stream c.mid c.ordered p).map zav.row).length+1)*136<=140737488355328) zz3 (zw ?_)
 try refine sG ?_
 refine sF ?_;exact ⟨⟨(a++[p],b),zag h⟩,(zaz [(3,some 3),(900,some 900),(901,some 45)] zz38),by simp⟩):P:=h
theorem yy14 {P:Prop} (h:P:=by
 conv=>whnf
 try refine sO ?_
 refine zbz k rfl h4 (zw ?_)
 (refine cL ?_;refine dL (zcu _) ?_)
 (refine cP ?_;refine dL ps ?_)
 refine sD ?_;cases ok with
 | false =>
  have hstep:T=y:=hstep;rw [hno rfl] at hstep;subst hstep;(conv=>whnf)
  try refine sG ?_
  try rfl
 | true =>
  have hless:=hless rfl;(conv=>whnf)
  try refine sG ?_
  refine zaa (c:=(([]:List (List PV)).length+(y.zbp.map fun n=>[pi n]).length)*8<=140737488355328) (by rw [zy2,k1];simp;omega) (zw ?_);refine sO ?_;refine zbz k rfl h4' (zw ?_);rw [hyk];refine sF ?_;refine sO ?_;refine zbz k rfl h4' (zw ?_);have hb:(zxu y k).zbp[k]?.getD 0=x.zbp[k]+1:=by
   show (y.zbp.set k (y.zbp[k]?.getD 0+1))[k]?.getD 0=_;rw [zy41 h4',zy3 h4',hyk];rfl
  refine ⟨⟨(true,zxu y k),⟨by show y.pieces.length<_;omega,by show tot y.pieces<_;omega,by show y.log.length+y.pieces.length<_;omega,by show k<(y.zbp.set k _).length;rw [zy26];exact h4',by rw [hb];omega,by rw [hb];show _+(y.pieces.length:Int)<_;omega⟩,by rw [hstep];rfl,by show (y.zbp.set k _).length<_;rw [zy26,k1];exact h9⟩,(zaz [(2,some 2),(4,some 4),(900,some 26)] zz24),by show y.pieces.length<x.pieces.length;omega⟩):P:=h
theorem yy10 {P:Prop} (h:P:=by
 (conv=>whnf);by_cases c5:m<=n
 . rw [zwx g4 (by rw [gm];exact c5)] at he
   obtain ⟨k1,k2,k3,k4,k5,k6,k7⟩:=zne y k;have hgt:(pass y k).zbp[k]?.getD 0=m+1:=by rw [k1,zy41 g4,gm];rfl
   have nx:yrv (pass y k) k/\(pass y k).zbp[k]?.getD 0=m+1/\m+1<=2 ^ 58/\turns (ydc (pass y k) k n) k=T/\(pass y k).zbp.length<2 ^ 30:=⟨⟨by omega,by omega,by omega,by rw [k1,zy26];exact g4,by rw [hgt];omega,by rw [hgt];omega⟩,hgt,by omega,he,by rw [k1,zy26];exact g9⟩
   have hpas:=ygk (r:=y) (k:=k) gm;have hrt:=ygq y k (tag m) true true;refine sT ?_
   (refine cL ?_;refine dL (zcu m) ?_)
   rw [<- hk] at hpas hrt
   (refine cP ?_;refine dL (zzl y s.stream (tag m) (tag m) rfl zz0 zz0 zz0) ?_)
   generalize ykj y s.stream (tag m) true true=D' at hpas hrt ⊢;obtain ⟨w,okk⟩:=D';dsimp only at hpas hrt;have hwl:k<w.zbp.length:=by rw [hrt];exact g4
   refine sD ?_;refine zaa (c:=(([]:List (List PV)).length+(w.zbp.map fun n=>[pi n]).length)*8<=140737488355328) (by rw [zy2,hrt];simp;omega) (zw ?_)
   repeat refine sG ?_
   refine sF ?_;refine sO ?_;refine zbz k zz0 hwl (zw ?_);refine sF ?_;rw [hpas] at nx;refine hQ _ _ ?_;conv=>whnf
   have nx:xhd k n T (true,zxu w k,m+1):=nx;exact ⟨⟨(true,zxu w k,m+1),nx⟩,(zaz [(2,some 2),(4,some 4),(7,some 7),(900,some 103)] zz35),by dsimp only;omega⟩
 . rw [ydd (by rw [gm];omega)] at he
   subst he;refine sN ?_;refine hQ _ _ ?_;conv=>whnf
   (refine cP ?_;refine dL (zhx y k _ hk rfl ⟨g1,g2,g3,g4,by rw [gm];omega,by rw [gm];omega⟩ g9) ?_)
   refine sF ?_;refine hQ0 _ _ (zw ?_);exact ⟨⟨(turns y k,a++[s],b),zag h1,next,h3⟩,(zbi [(2,some 2),(4,some 4)]),by simp⟩):P:=h
theorem yy124 {P:Prop} (h:P:=by
 repeat refine sG ?_
 refine sF ?_;refine hQ0 _ _ (zw ?_);exact ⟨⟨(x,a++[s],b),zag h1,next,h3⟩,(zbi [(2,some 2),(4,some 4)]),by simp⟩):P:=h
theorem yy18 {P:Prop} (h:P:=by
 rintro ⟨⟨A,B⟩,h⟩;dsimp only at h;have hl:r.zas.length=A.length+B.length:=by rw [h];simp
 (conv=>whnf);cases B with
 | cons p B =>
  have hp:=hsp p zz104;rw [zy6] at hl;have hq:((A.take 6).map (shift r.cum)).length=min 6 A.length:=by simp
  refine sT ?_;refine zaj h rfl (zw ?_);have hsn:=zsc A p (shift r.cum);by_cases c:A.length<6
  . rw [zy1 c] at hsn
    refine sT ?_;refine sF ?_;refine sF ?_;refine zaa (c:=((((A.take 6).map (shift r.cum)).map Span.row).length+1)*16<=140737488355328) zz3 (zw ?_)
    try refine sG ?_
    refine sF ?_;refine ⟨⟨(A++[p],B),by rw [h];simp⟩,(zaz [(1,some 1),(2,some 2),(3,some 3),(900,some 42)] zz50),by simp⟩
  . rw [zy0 c] at hsn
    refine sN ?_;refine sF ?_;refine ⟨⟨(A++[p],B),by rw [h];simp⟩,(zaz [(1,some 1),(2,some 2),(3,some 3),(900,some 900)] zz52),by simp⟩
 | nil =>
  rw [zy12] at hl;rw [zy4] at h;refine sN ?_;rw [h]
  try rfl):P:=h
theorem yy21 {P:Prop} (h:P:=by
 exact zao [(0,some 20)] rfl rfl trivial rfl rfl ⟨⟨rfl,.inl ⟨20,rfl,rfl⟩⟩,trivial⟩):P:=h
theorem yy39 {P:Prop} (h:P:=by
 refine sD ?_;exact zao [(0,some 950)] rfl rfl trivial rfl rfl ⟨⟨rfl,.inl ⟨950,rfl,rfl⟩⟩,trivial⟩):P:=h
theorem yy131 {P:Prop} (h:P:=by
 (try refine sG ?_)
 refine sF ?_;refine hQ _ _ ?_;conv=>whnf
 exact ⟨⟨(A++[x],B),zag h⟩,(zaz [(900,some 900)] zz15),by simp⟩):P:=h
theorem yy126 {P:Prop} (h:P:=by
 (try refine sG ?_)
 refine sF ?_;refine hQ _ _ ?_;conv=>whnf
 exact ⟨⟨(A++[v],B),zag g⟩,(zaz [(2,some 2),(3,some 3)] zz93),by simp⟩):P:=h
theorem yy76 {P:Prop} (h:P:=by
 (try refine sG ?_)
 refine sF ?_;refine hQ _ _ ?_;conv=>whnf
 exact ⟨⟨(A++[a],B),zag g⟩,(zaz [(3,some 3)] zz15),by simp⟩):P:=h
theorem yy55 {P:Prop} (h:P:=by
 refine sD ?_;refine sF ?_;refine hQ3 _ _ (zw ?_);exact ⟨⟨k+1,by omega,hkn.trans (zrl hm hms)⟩,(zbi [(14,some 14)]),by show T.length-(k+1)<T.length-k;omega⟩):P:=h
theorem yy72 {P:Prop} (h:P:=by
 (try refine sG ?_)
 refine sF ?_;refine hQ2 _ _ (zw ?_);exact ⟨⟨(X++[m],Y),zag g2⟩,(zaz [(6,some 6),(7,some 7)] zz15),by simp⟩):P:=h
theorem yy132 {P:Prop} (h:P:=by
 (try refine sG ?_)
 refine sF ?_;refine hQ2 _ _ (zw ?_);exact ⟨⟨((A++[a],B),n),zag g,hn.trans hn2,hnT⟩,(zbi []),by simp⟩):P:=h
theorem yy7 {P:Prop} (h:P:=by
 repeat refine sG ?_
 refine ⟨{k:Nat // k<=s.had.length},fun | ⟨k,_⟩=>hs 127 [(2,qs q),(4,.ptr 4 0),(7,i64 s.had.length),(10,.own 900),(11,i64 (k+1))] [(4,.live (.cells 28 s.cells)),(900,yvz ((List.range' 0 k).map fun i:Nat=>(s.last+1+(i:Int)).tmod s.had.length))],fun k=>s.had.length-k.1,⟨0,by omega⟩,?_,?_⟩
 . exact (zbi [(4,some 4),(900,none)])
 rintro ⟨k,hk⟩;refine zcd fun Q hQ=>?_
 (conv=>whnf);by_cases c:k<s.had.length
 . refine sT ?_
   refine sF ?_;refine sO ?_;refine zaa (c:=((((List.range' 0 k).map fun i:Nat=>(s.last+1+(i:Int)).tmod s.had.length).map fun n=>[pi n]).length+1)*8<=140737488355328) zz3 (zw ?_)
   (try refine sG ?_)
   refine sF ?_;refine hQ _ _ ?_;conv=>whnf
   exact ⟨⟨k+1,c⟩,(zaz [(4,some 4),(900,some 62)] zz25),by dsimp only;omega⟩
 . refine sN ?_
   refine hQ _ _ ?_;conv=>whnf
   have hkk:k=s.had.length:=by omega
   subst hkk;rw [hafter];obtain ⟨O,hO⟩:∃ O,O=((List.range' 0 s.had.length).map fun i:Nat=>(s.last+1+(i:Int)).tmod s.had.length):=⟨_,rfl⟩
   rw [<- hO];generalize hN:pick q O=N;have hOl:O.length=s.had.length:=by rw [hO];simp
   refine ⟨{x:List Int×List Int // (O)=x.1++x.2/\pick q x.2=N},fun | ⟨(a,b),_⟩=>hs 127 [(2,qs q),(114,.own 900),(115,i64 (O).length),(116,i64 a.length)] [(900,yvz (O))],fun x=>x.1.2.length,⟨([],O),rfl,hN⟩,?_,?_⟩
   . exact (zaz [(900,some 900)] zz40)
   rintro ⟨⟨a,b⟩,h,hp⟩;dsimp only at h hp;refine zcd fun Q hQ=>?_
   cases b with
   | cons k b =>
    have hz:=zbe h;rw [pick] at hp;(conv=>whnf);refine zac zz106 (zw ?_);refine sO ?_;refine zaj h rfl (zw ?_)
    (refine cL ?_;refine dL (znk q k hb) ?_)
    by_cases c:first q k>=0
    . rw [zy1 c] at hp
      refine zac zz69 (zw ?_);refine hQ _ _ ?_;conv=>whnf
      rw [hp]
    . rw [zy0 c] at hp
      refine zab zz69 (zw ?_)
      (try refine sG ?_)
      refine sFm ?_;refine hQ _ _ ?_;conv=>whnf
      exact ⟨⟨(a++[k],b),zag h,hp⟩,(zbi [(900,some 900)]),by simp⟩
   | nil =>
    have hz:=zbn h;(conv=>whnf);refine zab zz97 (zw ?_);refine hQ _ _ ?_;conv=>whnf
    rw [<- hp];rfl):P:=h
theorem yy9 {P:Prop} (h:P:=by
 rintro ⟨⟨a,b⟩,h,hp⟩;dsimp only at h hp;refine zcd fun Q hQ=>?_
 cases b with
 | cons k b =>
  have hz:=zbe h;rw [pick] at hp;(conv=>whnf);refine zac zz106 (zw ?_);refine sO ?_;refine zaj h rfl (zw ?_)
  (refine cL ?_;refine dL (znk q k hb) ?_)
  by_cases c:first q k>=0
  . rw [zy1 c] at hp
    refine zac zz69 (zw ?_);refine hQ _ _ ?_;conv=>whnf
    rw [hp]
  . rw [zy0 c] at hp
    refine zab zz69 (zw ?_)
    (try refine sG ?_)
    refine sFm ?_;refine hQ _ _ ?_;conv=>whnf
    exact ⟨⟨(a++[k],b),zag h,hp⟩,(zbi [(900,some 900)]),by simp⟩
 | nil =>
  have hz:=zbn h;(conv=>whnf);refine zab zz97 (zw ?_);refine hQ _ _ ?_;conv=>whnf
  rw [<- hp];rfl):P:=h
theorem yy11 {P:Prop} (h:P:=by
 rintro ⟨⟨a,b⟩,h⟩;dsimp only at h;cases b with
 | cons n b =>
  have hz:=zbe h;have hsn:(a++[n]).mapIdx (fun k n=>if (k:Int)=m.message.stream then W (n+bytes) else n)=(a.mapIdx fun k n=>if (k:Int)=m.message.stream then W (n+bytes) else n)++[if (a.length:Int)=m.message.stream then W (n+bytes) else n]:=by rw [zy101]
  (conv=>whnf);refine sT ?_;refine zaj h rfl (zw ?_)
  repeat refine sG ?_
  by_cases c:(a.length:Int)=m.message.stream
  . rw [zy1 c] at hsn
    refine zac zz69 (zw ?_)
    (try refine sG ?_)
    refine zce (zw ?_)
    (try refine sG ?_)
    refine zaa (c:=(((a.mapIdx fun k n=>if (k:Int)=m.message.stream then W (n+bytes) else n).map fun n=>[pi n]).length+1)*8<=140737488355328) zz3 (zw ?_)
    (try refine sG ?_)
    refine sF ?_;exact ⟨⟨(a++[n],b),zag h⟩,(zaz [(5,some 5),(8,some 8),(9,some 9),(900,some 40)] zz31),by simp⟩
  . rw [zy0 c] at hsn
    refine zab zz69 (zw ?_)
    (try refine sG ?_)
    refine zaa (c:=(((a.mapIdx fun k n=>if (k:Int)=m.message.stream then W (n+bytes) else n).map fun n=>[pi n]).length+1)*8<=140737488355328) zz3 (zw ?_)
    (try refine sG ?_)
    refine sF ?_;exact ⟨⟨(a++[n],b),zag h⟩,(zaz [(5,some 5),(8,some 8),(9,some 9),(900,some 40)] zz31),by simp⟩
 | nil =>
  have hz:=zbn h;rw [zy4] at h;(conv=>whnf);refine sN ?_;rw [h]
  try rfl):P:=h
theorem yy106 {P:Prop} (h:P:=by
 (try refine sG ?_)
 refine sF ?_;refine hQ _ _ ?_;conv=>whnf
 exact ⟨⟨(k+1,(k:Int)),c7,.inr zz81,g3⟩,(zbi [(4,some 4),(900,some 900),(901,some 901)]),by dsimp only;omega⟩):P:=h
theorem yy36 {P:Prop} (h:P:=by
 refine sN ?_;refine zaa (c:=(((a.map (age high)).map zbo.row).length+1)*200<=140737488355328) om (zw ?_);refine sF ?_;exact ⟨⟨(a++[s],b),zag h⟩,(zaz [(900,some 900),(901,some 901),(902,some 130),(903,some 903)] zz22),by simp⟩):P:=h
theorem yy44 {P:Prop} (h:P:=by
 refine sT ?_;refine zaa (c:=((out.map zbo.row).length+1)*200<=140737488355328) om (zw ?_);refine sF ?_;exact ⟨⟨_,hnx⟩,(zaz [(6,some 6),(900,some 900),(901,some 97)] zz13),by simp⟩):P:=h
theorem yy78 {P:Prop} (h:P:=by
 refine sO ?_;refine zbz s.path.toNat zz0 zz0 (zw ?_);refine sR ?_;refine sO ?_;refine zbz s.path.toNat zz0 zz0 (zw ?_);refine sD ?_;refine sN ?_;refine sF ?_;exact ⟨⟨_,hnx⟩,(zaz [(6,some 6),(900,some 900),(901,some 901)] zz13),by simp⟩):P:=h
theorem yy101 {P:Prop} (h:P:=by
 show HV.tup [_,_,.p (.sl 1 (List.replicate paths.toNat [pi 0])),_]=_;rw [show List.replicate paths.toNat [pi 0]=(List.replicate paths.toNat (0:Int)).map fun n=>[pi n] by rw [zy73]]
 rfl):P:=h
theorem yy63 {P:Prop} (h:P:=by
 rw [zy0 hm] at hlast;(conv=>whnf);refine sF ?_;exact ⟨⟨(c++[x],d,t),zag hcd,by simpa using hlast⟩,(zbi [(9,some 9),(900,some 900)]),by simp⟩):P:=h
theorem yy118 {P:Prop} (h:P:=by
 rw [zy1 hm] at hlast;(conv=>whnf);refine sF ?_;exact ⟨⟨(c++[x],d,c.length),zag hcd,by simpa using hlast⟩,(zbi [(9,some 9),(900,some 900)]),by simp⟩):P:=h
theorem yy135 {P:Prop} (h:P:=by
 (try refine sG ?_)
 refine sF ?_;exact ⟨⟨(a++[y],b),zag h'⟩,(zaz ((2,some 2)::((4,some 4)::(pJ3 []))) zz45),by simp⟩):P:=h
theorem yy143 {P:Prop} (h:P:=by
 (try refine sG ?_)
 ((refine zdc ?_;(conv=>whnf);refine ⟨_,hp,rfl,?_⟩;conv=>whnf);try refine sG ?_)
 try rfl):P:=h
theorem yy62 {P:Prop} (h:P:=by
 (try refine sG ?_)
 refine zaa (c:=((C.map Path.row).length+1)*56<=140737488355328) zz6 (zw ?_);refine sF ?_;refine hQ _ _ ?_;conv=>whnf
 exact ⟨⟨((A++[p],B),t,C++[p]),zag h,by rw [hAl];exact hst,by rw [zy27];exact hk,hz3,by simp [hC]⟩,(zaz [(1,some 1),(2,some 2),(900,some 84)] zz78),by simp⟩):P:=h
theorem yy107 {P:Prop} (h:P:=by
 (try refine sG ?_)
 refine sF ?_;refine hQ2 _ _ (zw ?_);exact ⟨⟨(a++[y],b),zag h'⟩,(zaz [(1,some 1),(2,some 2),(5,some 5),(900,some 900),(902,some 902)] zz45),by simp⟩):P:=h
theorem yy8 {P:Prop} (h:P:=by
 refine zhs.meet (PLift (¬ (zba s>0/\W (zba s+many s m)>s.room))) (fun _=>hsP [1000,1007,1008] 298 [(0,.ptr 1000 0),(3,i64 (choose s)),(4,i64 k),(5,.ptr 5 0),(6,i64 (many s m))] (rnM s m a c)) ?_ hrest;(conv=>whnf);by_cases c7:m.mid<0
 case neg =>
  have hm1:zdf s m=m.mid:=zy0 c7;have hm2:zds s m=s.mids:=zy0 c7;refine zab (zy11 c7) (zw ?_);exact ⟨⟨c6⟩,(zcb [(1000,some 1000),(1007,some 1007),(1008,some 1008),(5,some 5)] zz79)⟩
 obtain ⟨v,hv⟩:∃ v,s.mids[zgn s m]?=some v:=⟨_,zy3 (mf.at_ c7)⟩
 have hmo:zdf s m=v:=by rw [zdf,zy1 c7,hv];rfl
 have hms:zds s m=s.mids.set (zgn s m) (W (v+1)):=by rw [zds,zy1 c7,setAt,hv]
 have hml:=mf.at_ c7;refine zac (zy10 c7) (zw ?_);have hat:(m.message.stream+if m.message.ordered then 0 else s.config.streams)=(zgn s m:Int):=by unfold zgn;have:=mf.lo;have:=mf.lo2;split<;>omega
 have hfs:=mf.lo;have hfh:=mf.hi;have hfs2:=mf.lo2;have hfh2:=mf.hi2;have hmr:∀ j:Nat,j=zgn s m->(([]:List (List PV))++s.mids.map fun n=>[pi n]).set j [pi (W (v+1))]=(zds s m).map fun n=>[pi n]:=fun j hj=>by rw [hj,hms];simp [zy61]
 (try refine sG ?_)
 cases ho:m.message.ordered with
 | true =>
  rw [ho,zy1 rfl] at hat;(conv=>whnf)
  (try refine sG ?_)
  refine zam hv zz0 (zw ?_);refine zaa (c:=(([]:List (List PV)).length+(s.mids.map fun n=>[pi n]).length)*8<=140737488355328) zz3 (zw ?_);refine sOm ?_;refine zam (l:=s.mids) hv zz0 (zw ?_);refine sRm ?_;refine sOm ?_;refine zam (l:=s.mids) hv zz0 (zw ?_);exact ⟨⟨c6⟩,(zog [146] [(1000,some 1000),(1007,some 1007),(1008,some 1008),(5,some 5)] zz9)⟩
 | false =>
  rw [ho,zy0 (by decide)] at hat;(conv=>whnf)
  (try refine sG ?_)
  refine sF ?_;refine zam hv zz0 (zw ?_);refine zaa (c:=(([]:List (List PV)).length+(s.mids.map fun n=>[pi n]).length)*8<=140737488355328) zz3 (zw ?_);refine sOm ?_;refine zam (l:=s.mids) hv zz0 (zw ?_);refine sRm ?_;refine sOm ?_;refine zam (l:=s.mids) hv zz0 (zw ?_);exact ⟨⟨c6⟩,(zog [146] [(1000,some 1000),(1007,some 1007),(1008,some 1008),(5,some 5)] zz9)⟩):P:=h
theorem yy61 {P:Prop} (h:P:=by
 subst hG
 (exact zci [(1000,some 1000),(1007,some 1007),(1008,some 1008),(0,some 1007),(1,some 1008)])):P:=h
theorem yy109 {P:Prop} (h:P:=by
 refine sF ?_;refine hQ _ _ ?_;conv=>whnf
 exact ⟨⟨(A++[x],B),zag h⟩,(zcb [(1000,some 1000),(1007,some 1007),(1008,some 1008),(5,some 5),(900,some 281)] zz85),by simp⟩):P:=h
namespace Go.HL
namespace Ser
def zjt:List Span->Prop
 | []=>True
 | s::r=>s.lo<=s.hi/\-9223372036854775808<=s.lo/\s.hi<=9223372036854775807/\(∀ t∈r,s.hi+1<t.lo)/\zjt r
theorem zhh:∀ {a b:List Span},zjt (a++b)↔zjt a/\zjt b/\∀ s∈a,∀ t∈b,s.hi+1<t.lo
 | [],b=>by simp [zjt]
 | s::a,b=>by
  simp only [zy40,zjt,zhh (a:=a) (b:=b),zy20,zy13]
  constructor
  . rintro ⟨h1,h2,h3,h4,h5,h6,h7⟩
    exact ⟨⟨h1,h2,h3,fun t ht=>h4 t (.inl ht),h5⟩,h6,fun x hx t ht=>by rcases hx with rfl | hx;exact h4 t (.inr ht);exact h7 x hx t ht⟩
  . rintro ⟨⟨h1,h2,h3,h4,h5⟩,h6,h7⟩
    exact ⟨h1,h2,h3,fun t ht=>by rcases ht with ht | ht;exact h4 t ht;exact h7 s (.inl rfl) t ht,h5,h6,fun x hx t ht=>h7 x (.inr hx) t ht⟩
theorem zhi:∀ {l:List Span},zjt l->∀ s∈l,s.lo<=s.hi/\-9223372036854775808<=s.lo/\s.hi<=9223372036854775807
 | s::r,h,t,ht=>by
  rcases zy13.1 ht with rfl | ht
  . exact ⟨h.1,h.2.1,h.2.2.1⟩
  . exact zhi h.2.2.2.2 t ht
theorem yjm {l:List Span} {n:Int}:has l n=true↔∃ s∈l,s.lo<=n/\n<=s.hi:=by
 simp [has,zy98]
theorem ytl {l:List Span} {n:Int}:has l n=false↔∀ s∈l,¬ (s.lo<=n/\n<=s.hi):=by
 rw [<- zy148,yjm];simp
theorem yax (a b:List Span) (n:Int):has (a++b) n=(has a n||has b n):=by simp [has]
theorem ztt (s:Span) (b:List Span) (n:Int):has (s::b) n=((decide (s.lo<=n)&&decide (n<=s.hi))||has b n):=by simp [has]
def ypy (n:Int) (s:Span):Bool:=decide (s.hi<n)
def below (l:List Span) (n:Int):List Span:=l.takeWhile (ypy n)
def zfo (l:List Span) (n:Int):List Span:=l.dropWhile (ypy n)
def ztp (n:Int) (a:List Span):List Span×Int:=match a.getLast? with
 | some s=>if s.hi=n-1 then (a.dropLast,s.lo) else (a,n)
 | none=>(a,n)
def zou (n:Int):List Span->Int×List Span
 | t::r=>if t.lo=n+1 then (t.hi,r) else (n,t::r)
 | []=>(n,[])
def add (l:List Span) (n:Int):List Span :=
 if has l n then l else (ztp n (below l n)).1++⟨(ztp n (below l n)).2,(zou n (zfo l n)).1⟩::(zou n (zfo l n)).2
theorem split (l:List Span) (n:Int):l=below l n++zfo l n:=(List.takeWhile_append_dropWhile).symm
theorem zpd {l:List Span} {n:Int}:∀ s∈below l n,s.hi<n:=fun s hs=>by
 have:=zy56.1 (List.all_takeWhile (p:=ypy n) (l:=l)) s hs
 simpa [ypy] using this
theorem zzx {l:List Span} {n:Int} (h:zjt l) (hn:has l n=false):∀ s∈zfo l n,n<s.lo:=by
 intro s hs;have hsp:=split l n;have hr:zjt (zfo l n):=by rw [hsp] at h;exact (zhh.1 h).2.1
 have hno:∀ t∈zfo l n,¬ (t.lo<=n/\n<=t.hi):=fun t ht=>ytl.1 hn t (by rw [hsp];exact List.mem_append_right _ ht)
 have hhd:∀ t r,zfo l n=t::r->¬ t.hi<n:=by
  intro t r e hlt;have:=zy139 (ypy n) l;rw [show l.dropWhile (ypy n)=t::r from e] at this;simp [ypy] at this;omega
 cases ha:zfo l n with
 | nil=>rw [ha] at hs;simp at hs
 | cons t r =>
  have h1:=hhd t r ha;have h2:=hno t (by rw [ha];simp);rw [ha] at hr hs;have h3:=hr.1;rcases zy13.1 hs with rfl | hs
  . omega
  . have:=hr.2.2.2.1 s hs;omega
theorem ysf {l:List Span} {n:Int} (h:zjt l):∀ (i:Nat) (hi:i<l.length),l[i].hi<n↔i<(below l n).length:=by
 intro i hi;have hsp:=split l n
 constructor
 . intro hlt
   apply Classical.byContradiction;intro hge;have hmem:l[i]∈zfo l n:=by
    have e:l[i]?=(zfo l n)[i-(below l n).length]?:=by
     conv=>lhs;rw [hsp]
     exact zy45 zz0
    rw [zy3 hi] at e;exact zy21 e.symm
   have hr:zjt (zfo l n):=by rw [hsp] at h;exact (zhh.1 h).2.1
   cases ha:zfo l n with
   | nil=>rw [ha] at hmem;simp at hmem
   | cons t r =>
    have h1:¬ t.hi<n:=by
     exact yy145
    rw [ha] at hr hmem;rcases zy13.1 hmem with e | hm
    . rw [e] at hlt;exact h1 hlt
    . have h4:=hr.2.2.2.1 _ hm
      have h5:=(zhi hr.2.2.2.2 _ hm).1;have:=hr.1;omega
 . intro hlt
   have e:l[i]?=(below l n)[i]?:=by
    conv=>lhs;rw [hsp]
    exact zy46 hlt
   rw [zy3 hi] at e;exact zpd _ (zy21 e.symm)
theorem ysn {a:List Span} {n:Int} (h:zjt a) (hn:∀ s∈a,s.hi<n) :
 (ztp n a).2<=n/\(∀ s∈(ztp n a).1,s.hi+1<(ztp n a).2)/\zjt (ztp n a).1/\(-9223372036854775808<=n->-9223372036854775808<=(ztp n a).2)/\∀ m,(has (ztp n a).1 m||(decide ((ztp n a).2<=m)&&decide (m<n)))=has a m:=by
 rcases zy111 a with rfl | ⟨a',s,rfl⟩
 . simp [ztp,zjt,has]
   intro m hm;exact zy24 hm
 . rw [zy99] at h hn ⊢
   have hs:=hn s zz5;have hr:=zhh.1 h;have h3:∀ x∈a',x.hi+1<s.lo:=fun x hx=>hr.2.2 x hx s zz5
   have h4:=hr.2.1.1;simp only [ztp,List.getLast?_concat];split
   . rename_i he
     simp only [List.dropLast_concat];refine ⟨by omega,h3,hr.1,fun _=>hr.2.1.2.1,fun m=>?_⟩;rw [yax,ztt];have:decide (m<n)=decide (m<=s.hi):=by rw [decide_eq_decide];omega
     rw [this];simp [has]
   . rename_i he
     refine ⟨zy75 _,fun x hx=>?_,h,fun h=>h,fun m=>?_⟩
     . rcases zy20.1 hx with hx | hx
       . have:=h3 x hx;dsimp only;omega
       . rw [zy25.1 hx];dsimp only;omega
     . have:(decide (n<=m)&&decide (m<n))=false:=by simp<;>omega
       dsimp only;rw [this,zy135]
theorem yso {b:List Span} {n:Int} (h:zjt b) (hn:∀ s∈b,n<s.lo) :
 n<=(zou n b).1/\(∀ s∈(zou n b).2,(zou n b).1+1<s.lo)/\zjt (zou n b).2/\(n<=9223372036854775807->(zou n b).1<=9223372036854775807)/\∀ m,(has (zou n b).2 m||(decide (n<m)&&decide (m<=(zou n b).1)))=has b m:=by
 cases b with
 | nil =>
  simp [zou,zjt,has];intro m hm;exact zy11 zz0
 | cons t r =>
  have ht:=hn t zz5;simp only [zou];split
  . rename_i he
    refine ⟨by have:=h.1;dsimp only;omega,h.2.2.2.1,h.2.2.2.2,fun _=>h.2.2.1,fun m=>?_⟩;rw [ztt,Bool.or_comm];congr 2;rw [decide_eq_decide];omega
  . rename_i he
    refine ⟨zy75 _,fun x hx=>?_,h,fun h=>h,fun m=>?_⟩
    . rcases zy13.1 hx with rfl | hx
      . dsimp only;omega
      . have:=h.2.2.2.1 x hx;have:=h.1;dsimp only;omega
    . have:(decide (n<m)&&decide (m<=n))=false:=by simp
      dsimp only;rw [this,zy135]
theorem yaa {l:List Span} {n:Int} (h:zjt l) (h1:-9223372036854775808<=n) (h2:n<=9223372036854775807):zjt (add l n)/\∀ m,has (add l n) m=(has l m||decide (m=n)):=by
 unfold add;cases hn:has l n with
 | true =>
  refine ⟨h,fun m=>?_⟩;by_cases hm:m=n
  . subst hm;simp [hn]
  . simp [hm]
 | false =>
  simp only [zy72,if_false];have hsp:=split l n;have hab:=h;rw [hsp] at hab;obtain ⟨ra,rb,rab⟩:=zhh.1 hab;obtain ⟨a1,a2,a3,a4,a5⟩:=ysn ra zpd;obtain ⟨b1,b2,b3,b4,b5⟩:=yso rb (zzx h hn);have a4:=a4 h1;have b4:=b4 h2;have b6:∀ s∈(zou n (zfo l n)).2,n<s.lo:=fun s hs=>by have:=b2 s hs;omega
  refine ⟨zhh.2 ⟨a3,⟨by dsimp only;omega,a4,b4,b2,b3⟩,fun s hs t ht=>?_⟩,fun m=>?_⟩
  . rcases zy13.1 ht with rfl | ht
    . exact a2 s hs
    . have:=a2 s hs;have:=b6 t ht;omega
  . have e:has l m=(has (below l n) m||has (zfo l n) m):=by rw [<- yax,<- hsp]
    rw [yax,ztt,e,<- a5 m,<- b5 m];generalize has (ztp n (below l n)).1 m=A;generalize has (zou n (zfo l n)).2 m=B;dsimp only;rcases Int.lt_trichotomy m n with hlt | rfl | hgt
    . have e1:decide (m<n)=true:=by simpa using hlt
      have e2:decide (n<m)=false:=by simp;omega
      have e3:decide (m=n)=false:=by simp;omega
      have e4:decide (m<=(zou n (zfo l n)).1)=true:=by simp;omega
      rw [e1,e2,e3,e4];simp [Bool.or_assoc,Bool.or_comm,Bool.or_left_comm]
    . have e4:decide (m<=(zou m (zfo l m)).1)=true:=by simp;omega
      have e5:decide ((ztp m (below l m)).2<=m)=true:=by simp;omega
      rw [e4,e5];simp
    . have e1:decide (m<n)=false:=by simp;omega
      have e2:decide (n<m)=true:=by simpa using hgt
      have e3:decide (m=n)=false:=by simp;omega
      have e4:decide ((ztp n (below l n)).2<=m)=true:=by simp;omega
      rw [e1,e2,e3,e4];simp [Bool.or_assoc,Bool.or_comm,Bool.or_left_comm]
end Ser
namespace Ser
def cmp (n:Int) (s:Span):Int:=if s.hi<n then -1 else if s.lo>n then 1 else 0
theorem yci (n:Int) (s:Span):zan Tryz.prog 196 [s.hv,i64 n] zad (i64 (cmp n s)) zad:=by
 refine zal mixed Tryz.func196 zz4 ?_;(conv=>whnf);refine zaf (fun c=>?_) (fun c=>?_)
 . have c:s.hi<n:=by simpa using c
   (conv=>whnf);rw [cmp,zy1 c]
 . have c:¬ s.hi<n:=by simpa using c
   (conv=>whnf);refine zaf (fun c2=>?_) (fun c2=>?_)
   . have c2:s.lo>n:=by simpa using c2
     (conv=>whnf);rw [cmp,zy0 c,zy1 c2]
   . have c2:¬ s.lo>n:=by simpa using c2
     (conv=>whnf);rw [cmp,zy0 c,zy0 c2]
theorem xfi {n:Int} {s:Span}:cmp n s<0↔s.hi<n:=by
 unfold cmp;split
 . simp [*]
 . split<;>simp [*]
theorem found {l:List Span} {n:Int} (h:zjt l):zuq (cmp n) l (below l n).length=has l n:=by
 have hsp:=split l n;have e:l[(below l n).length]?=(zfo l n)[0]?:=by
  conv=>lhs;arg 1;rw [hsp]
  rw [zy45 (zy23 _),zy95]
 have e2:has l n=has (zfo l n) n:=by
  conv=>lhs;arg 1;rw [hsp]
  rw [yax,ytl.2 fun s hs=>by have:=zpd s hs;omega,Bool.false_or]
 rw [zuq,e,e2];cases ha:zfo l n with
 | nil=>rfl
 | cons t r =>
  have hr:zjt (zfo l n):=by rw [hsp] at h;exact (zhh.1 h).2.1
  rw [ha] at hr;have h1:¬ t.hi<n:=by
   exact yy145
  have h2:has r n=false:=ytl.2 fun s hs=>by have:=hr.2.2.2.1 s hs;omega
  rw [ztt,h2,zy135];show (cmp n t==0)=_;rw [cmp,zy0 h1];by_cases c:t.lo>n
  . rw [zy1 c,zy11 (by omega)];rfl
  . rw [zy0 c,zy10 (by omega),zy10 (by omega)];rfl
theorem zfp (l:List Span) (hb:l.length<2 ^ 40):zan Tryz.prog 150 [.p (.sl 2 (l.map Span.row))] zad (.own 0) (lk .free [(0,.live (.row 199 2 (l.map Span.row)))]):=by
 refine zap mixed Tryz.func150 zz4 [] (fun _=>.inl rfl) ?_;(conv=>whnf);intro b hn;(conv=>whnf);refine zaf (fun c=>?_) (fun c=>?_)
 . conv=>whnf
   exact yy24
 . conv=>whnf
   refine zaa (c:=(([]:List (List PV)).length+(l.map Span.row).length)*16<=140737488355328) zz3 ?_;exact yy19
theorem zgd {α:Type} (l:List α):l=[]\/∃ a x,l=a++[x]:=by
 rcases zy111 l with h | ⟨a,x,h⟩
 . exact .inl h
 . exact .inr ⟨a,x,by rw [h,zy99]⟩
theorem zim (n:Int) (a:List Span) (s:Span):ztp n (a++[s])=if s.hi=n-1 then (a,s.lo) else (a++[s],n):=by
 simp [ztp]
theorem ybw {α:Type} {t n:Nat} {f:α->List PV} {a b:List α} {x y:α} {k:Nat} {r:List PV} (hk:k=a.length) (hr:f y=r) :
 zai.live (.row t n (((a++[x]++b).map f).set k r))=zai.live (.row t n ((a++[y]++b).map f)):=by
 rw [zy27,zy27];exact (zeg hk hr).symm
theorem zzb {α:Type} {t n:Nat} {f:α->List PV} {a b:List α} (h:a=b):zai.live (.row t n (a.map f))=zai.live (.row t n (b.map f)):=by rw [h]
theorem ywl (A B:List Span) (n:Int) (hl:zjt (A++B)) (hA:below (A++B) n=A) (hB:zfo (A++B) n=B) (hb:(A++B).length<2 ^ 39) (h1:-9223372036854775808<=n) (h2:n<=9223372036854775807) :
 zan Tryz.prog 181 [zas (A++B),i64 n] zad (.own 0) (lk .free [(0,.live (.row 199 2 ((add (A++B) n).map Span.row)))]):=by
 refine zap mixed Tryz.func181 zz4 [] (fun _=>.inl rfl) ?_;have hlen:(A++B).length=A.length+B.length:=zy8;have hf:=found (n:=n) hl;rw [hA] at hf;(conv=>whnf)
 (refine zat [(0,9)]  ?_;(conv=>whnf);refine dO (zfp (A++B) zz0) ?_)
 (refine cZ ?_;refine dL (xen (yci n) (A++B) A.length zz0 (fun i h=>by rw [xfi,ysf hl i h,hA]) zz0) ?_)
 rw [hf];cases hn:has (A++B) n with
 | true =>
  have ha:add (A++B) n=A++B:=by rw [add,hn];rfl
  rw [ha];(conv=>whnf);refine zao [(0,some 9)] rfl rfl trivial rfl rfl ⟨⟨rfl,.inl ⟨9,rfl,rfl⟩⟩,trivial⟩
 | false =>
  have ha:add (A++B) n=(ztp n A).1++⟨(ztp n A).2,(zou n B).1⟩::(zou n B).2:=by rw [add,hn,hA,hB];rfl
  rw [ha];(conv=>whnf);have hAl:A.length<2 ^ 39:=by omega
  have hlow:∀ s∈A,s.hi<n:=by have:=zpd (l:=A++B) (n:=n);rwa [hA] at this
  have habv:∀ s∈B,n<s.lo:=by have:=zzx hl hn;rwa [hB] at this
  (refine zae [] [(1000,9),(1001,23)] [(0,24)] ?_;(conv=>whnf);refine dG (yjv A B ⟨n,n⟩ _ rfl zz0) ?_ ⟨rfl,rfl,rfl,⟨zz1,⟨zz1,trivial⟩⟩,⟨⟨rfl,rfl⟩,trivial⟩,rfl,rfl,rfl⟩)
  cases B with
  | nil =>
   refine zbv (z':=((A.length+1:Nat):Int)) zz44 (zw ?_);refine sN ?_;have hR:zou n []=(n,[]):=rfl;rw [hR];rcases zgd A with rfl | ⟨A',s,rfl⟩
   . conv=>whnf
     try refine sG ?_
     exact yy68
   . have hs:s.hi<n:=hlow s zz5
     have hsl:(A'++[s]).length=A'.length+1:=by simp
     have hs2:=zhi hl s zz5;refine sT ?_;refine zbv (z':=((A'.length:Nat):Int)) zz33 (zw ?_);refine sOm ?_;refine zaj (show A'++[s]++⟨n,n⟩::[]=A'++s::⟨n,n⟩::[] by simp) rfl (zw ?_);refine zaq (z:=n-1) (zbu zz0 zz0) (zw ?_);by_cases he:s.hi=n-1
     . refine sT ?_
       refine zbv (z':=((A'.length:Nat):Int)) zz33 (zw ?_);refine sOm ?_;refine zaj (show A'++[s]++⟨n,n⟩::[]=(A'++[s])++⟨n,n⟩::[] from rfl) rfl (zw ?_);refine sOm ?_;refine zaj (show A'++[s]++⟨n,n⟩::[]=A'++s::⟨n,n⟩::[] by simp) zz5 (zw ?_);refine zbv (z':=((A'.length+2:Nat):Int)) zz82 (zw ?_);refine zae [] [(1000,24)] [(0,84)] (zw ?_);refine ⟨_,_,_,_,zje (A'++[⟨s.lo,n⟩]) ([]) ⟨n,n⟩ _ _ zz5 zz3 zz125,⟨rfl,rfl,rfl,⟨⟨rfl,_,rfl,.inl ⟨rfl,?_⟩⟩,trivial⟩,⟨⟨rfl,rfl⟩,trivial⟩,rfl,rfl,rfl⟩,?_⟩
       . exact ybw (f:=Span.row) (a:=A') (b:=⟨n,n⟩::[]) (x:=s) (y:=⟨s.lo,n⟩) zz5 rfl
       exact yy69
     . refine sN ?_
       rw [zim,zy0 he];exact yy68
  | cons x B =>
   have hx:=habv x zz5;have hx2:=zhi hl x zz5;have hbl:(x::B).length=B.length+1:=rfl;refine zbv (z':=((A.length+1:Nat):Int)) zz44 (zw ?_);refine sT ?_;refine zbv (z':=((A.length+1:Nat):Int)) zz44 (zw ?_);refine sOm ?_;refine zaj (show A++⟨n,n⟩::x::B=(A++[⟨n,n⟩])++x::B by simp) zz5 (zw ?_);refine zaq (z:=n+1) (zbu zz0 zz0) (zw ?_);by_cases hr:x.lo=n+1
   . refine sT ?_
     have hR:zou n (x::B)=(x.hi,B):=by simp [zou,hr]
     rw [hR];refine zbv (z':=((A.length+1:Nat):Int)) zz44 (zw ?_);refine sOm ?_;refine zaj (show A++⟨n,n⟩::x::B=(A++[⟨n,n⟩])++x::B by simp) zz5 (zw ?_);refine sOm ?_;refine zaj (show A++⟨n,n⟩::x::B=A++⟨n,n⟩::x::B from rfl) zz5 (zw ?_);refine zbv (z':=((A.length+1:Nat):Int)) zz44 (zw ?_);refine zbv (z':=((A.length+2:Nat):Int)) (by show W ((A.length:Int)+2)=_;rw [zbu (by omega) (by omega)];push_cast;rfl) (zw ?_);refine zae [] [(1000,24)] [(0,56)] (zw ?_);refine ⟨_,_,_,_,yiw (out:=A++⟨n,x.hi⟩::B) (A++[⟨n,x.hi⟩]) B x _ _ rfl zz5 zz5 zz3 zz125,⟨rfl,rfl,rfl,⟨⟨rfl,_,rfl,.inl ⟨rfl,?_⟩⟩,trivial⟩,⟨⟨rfl,rfl⟩,trivial⟩,rfl,rfl,rfl⟩,?_⟩
     . refine (zeg (f:=Span.row) (a:=A) (b:=x::B) (x:=⟨n,n⟩) (y:=⟨n,x.hi⟩) zz5 rfl).symm.trans (zzb zz5)
     conv=>whnf
     try refine sG ?_
     rcases zgd A with rfl | ⟨A',s,rfl⟩
     . conv=>whnf
       try refine sG ?_
       refine zao [(0,some 56)] rfl rfl trivial rfl rfl ⟨⟨rfl,.inl ⟨56,rfl,rfl⟩⟩,trivial⟩
     . have hs:s.hi<n:=hlow s zz5
       have hsl:(A'++[s]).length=A'.length+1:=by simp
       have hs2:=zhi hl s zz5;refine sT ?_;refine zbv (z':=((A'.length:Nat):Int)) zz33 (zw ?_);refine sOm ?_;refine zaj (show A'++[s]++⟨n,x.hi⟩::B=A'++s::⟨n,x.hi⟩::B by simp) rfl (zw ?_);refine zaq (z:=n-1) (zbu zz0 zz0) (zw ?_);by_cases he:s.hi=n-1
       . refine sT ?_
         refine zbv (z':=((A'.length:Nat):Int)) zz33 (zw ?_);refine sOm ?_;refine zaj (show A'++[s]++⟨n,x.hi⟩::B=(A'++[s])++⟨n,x.hi⟩::B from rfl) rfl (zw ?_);refine sOm ?_;refine zaj (show A'++[s]++⟨n,x.hi⟩::B=A'++s::⟨n,x.hi⟩::B by simp) zz5 (zw ?_);refine zbv (z':=((A'.length+2:Nat):Int)) zz82 (zw ?_);refine zae [] [(1000,56)] [(0,84)] (zw ?_);refine ⟨_,_,_,_,zje (A'++[⟨s.lo,x.hi⟩]) (B) ⟨n,x.hi⟩ _ _ zz5 zz3 zz125,⟨rfl,rfl,rfl,⟨⟨rfl,_,rfl,.inl ⟨rfl,?_⟩⟩,trivial⟩,⟨⟨rfl,rfl⟩,trivial⟩,rfl,rfl,rfl⟩,?_⟩
         . exact ybw (f:=Span.row) (a:=A') (b:=⟨n,x.hi⟩::B) (x:=s) (y:=⟨s.lo,x.hi⟩) zz5 rfl
         exact yy69
       . refine sN ?_
         rw [zim,zy0 he];refine zao [(0,some 56)] rfl rfl trivial rfl rfl ⟨⟨rfl,.inl ⟨56,rfl,rfl⟩⟩,trivial⟩
   . refine sN ?_
     have hR:zou n (x::B)=(n,x::B):=by simp [zou,hr]
     rw [hR];rcases zgd A with rfl | ⟨A',s,rfl⟩
     . conv=>whnf
       try refine sG ?_
       exact yy68
     . have hs:s.hi<n:=hlow s zz5
       have hsl:(A'++[s]).length=A'.length+1:=by simp
       have hs2:=zhi hl s zz5;refine sT ?_;refine zbv (z':=((A'.length:Nat):Int)) zz33 (zw ?_);refine sOm ?_;refine zaj (show A'++[s]++⟨n,n⟩::x::B=A'++s::⟨n,n⟩::x::B by simp) rfl (zw ?_);refine zaq (z:=n-1) (zbu zz0 zz0) (zw ?_);by_cases he:s.hi=n-1
       . refine sT ?_
         refine zbv (z':=((A'.length:Nat):Int)) zz33 (zw ?_);refine sOm ?_;refine zaj (show A'++[s]++⟨n,n⟩::x::B=(A'++[s])++⟨n,n⟩::x::B from rfl) rfl (zw ?_);refine sOm ?_;refine zaj (show A'++[s]++⟨n,n⟩::x::B=A'++s::⟨n,n⟩::x::B by simp) zz5 (zw ?_);refine zbv (z':=((A'.length+2:Nat):Int)) zz82 (zw ?_);refine zae [] [(1000,24)] [(0,84)] (zw ?_);refine ⟨_,_,_,_,zje (A'++[⟨s.lo,n⟩]) (x::B) ⟨n,n⟩ _ _ zz5 zz3 zz125,⟨rfl,rfl,rfl,⟨⟨rfl,_,rfl,.inl ⟨rfl,?_⟩⟩,trivial⟩,⟨⟨rfl,rfl⟩,trivial⟩,rfl,rfl,rfl⟩,?_⟩
         . exact ybw (f:=Span.row) (a:=A') (b:=⟨n,n⟩::x::B) (x:=s) (y:=⟨s.lo,n⟩) zz5 rfl
         exact yy69
       . refine sN ?_
         rw [zim,zy0 he];exact yy68
end Ser
namespace Ser
theorem xao (l:List Span) (n:Int) (hl:zjt l) (hb:l.length<2 ^ 39) (h1:-9223372036854775808<=n) (h2:n<=9223372036854775807) :
 zan Tryz.prog 181 [zas l,i64 n] zad (.own 0) (lk .free [(0,.live (.row 199 2 ((add l n).map Span.row)))]):=by
 have hsp:=split l n;have h:=ywl (below l n) (zfo l n) n (by rwa [<- hsp]) (by rw [<- hsp]) (by rw [<- hsp]) (by rwa [<- hsp]) h1 h2
 rwa [<- hsp] at h
def up:List Span->Int->Int×List Span
 | [],n=>(n,[])
 | s::r,n=>if s.lo<=n+1 then up r (if s.hi>n then s.hi else n) else (n,s::r)
def wnd:List Span->List Span->HV
 | [],_=>.own 900
 | _::a,b=>.osl 900 2 (a.length+1) b.length
theorem ymw {α:Type} {f:α->List PV} {l a b c:List α} {o n:Nat} {K:List (List PV)->Prop} (h:l=a++b++c) (ho:o=a.length) (hn:n=b.length) (hk:K (b.map f)):zre (l.map f) o n K:=by
 subst h ho hn;refine ⟨_,rfl,by simp,?_⟩
 rwa [<- zy104,<- zy124,zy27,zy105,zy133]
theorem xbv {i s o o' n n':Nat} (ho:o=o') (hn:n=n'):HV.osl i s o n=.osl i s o' n':=by rw [ho,hn]
theorem yxj (l:List Span) (n:Int) (hl:∀ s∈l,s.hi<=1099511627776) (hb:l.length<2 ^ 39) (h1:-1099511627776<=n) (h2:n<=1099511627776) :
 zan Tryz.prog 180 [zas l,i64 n] zad (.tup [i64 (up l n).1,.own 0]) (lk .free [(0,.live (.row 199 2 ((up l n).2.map Span.row)))]):=by
 refine zap mixed Tryz.func180 zz4 [] (fun _=>.inl rfl) ?_;generalize hR:up l n=R;(conv=>whnf)
 (refine zat [(0,8)]  ?_;(conv=>whnf);refine dO (zfp l zz0) ?_)
 refine ⟨{x:(List Span×List Span)×Int // l=x.1.1++x.1.2/\R=up x.1.2 x.2/\-1099511627776<=x.2/\x.2<=1099511627776},fun | ⟨((a,b),m),_⟩=>hs 32 [(1,i64 m),(6,wnd a b)] [(900,.live (.row 199 2 (l.map Span.row)))],fun x=>x.1.1.2.length,⟨(([],l),n),rfl,hR.symm,h1,h2⟩,?_,?_⟩
 . exact (zbi [(900,some 8)])
 rintro ⟨⟨⟨a,b⟩,m⟩,h,hu,hm1,hm2⟩;dsimp only at h hu hm1 hm2;have hlen:l.length=a.length+b.length:=by rw [h];simp
 have hlm:(l.map Span.row).length=l.length:=by simp
 cases a with
 | nil =>
  rw [zy57] at h;rw [zy12,zy74] at hlen;(conv=>whnf);cases b with
  | nil =>
   rw [zy12] at hlen;refine sN ?_
   (refine zat [(0,31)]  ?_;(conv=>whnf);refine dO (zfp l zz0) ?_)
   exact yy141
  | cons s r =>
   rw [zy6] at hlen;have hs:=hl s zz104;refine sT ?_;refine zaa zz0 (zw ?_);refine zaj (a:=[]) h rfl (zw ?_);refine sF ?_;by_cases c:s.lo<=m+1
   . refine sT ?_
     refine zaa zz0 (zw ?_);refine zaj (a:=[]) h rfl (zw ?_);refine zaa zz0 (zw ?_);refine ⟨⟨(([s],r),if s.hi>m then s.hi else m),h,by dsimp only;rw [hu,up,zy1 c],by dsimp only;split<;>omega,by dsimp only;split<;>omega⟩,(zaz [(900,some 900)] zz83),by simp⟩
   . refine sN ?_
     (refine zat [(0,31)]  ?_;(conv=>whnf);refine dO (zfp l zz0) ?_)
     rw [show up (s::r) m=(m,s::r) by simp [up,c]] at hu;exact yy141
 | cons t a =>
  rw [zy6] at hlen;have hal:(a.length:Int)+1=((t::a).length:Nat):=by simp
  (conv=>whnf);cases b with
  | nil =>
   rw [zy12] at hlen;(conv=>whnf)
   try refine sG ?_
   refine zat [(0,31)] (zw ?_);refine ymw (a:=t::a) (b:=[]) (c:=[]) zz104 rfl rfl ?_;(conv=>whnf);refine ⟨_,_,zfp [] zz5,⟨⟨⟨rfl,rfl⟩,trivial⟩,rfl,rfl,rfl⟩,?_⟩;(conv=>whnf);subst hu;refine zao [(0,some 31)] rfl rfl trivial rfl rfl ⟨⟨rfl,.inl ⟨31,rfl,rfl⟩⟩,trivial⟩
  | cons s r =>
   rw [zy6] at hlen;have hs:=hl s zz104;have hrl:(s::r).length=r.length+1:=rfl;refine sT ?_;refine zaa zz0 (zw ?_);refine zaj (a:=t::a) h zz5 (zw ?_);refine sF ?_;by_cases c:s.lo<=m+1
   . refine sT ?_
     refine zaa zz0 (zw ?_);refine zaj (a:=t::a) h zz5 (zw ?_);refine zaa zz0 (zw ?_);refine ⟨⟨((t::(a++[s]),r),if s.hi>m then s.hi else m),by rw [h];simp,by dsimp only;rw [hu,up,zy1 c],by dsimp only;split<;>omega,by dsimp only;split<;>omega⟩,(zaz [(900,some 900)] zz83),by simp⟩
   . refine sN ?_
     refine zat [(0,31)] (zw ?_);refine ymw (a:=t::a) (b:=s::r) (c:=[]) zz104 rfl rfl ?_;(conv=>whnf);refine ⟨_,_,zfp (s::r) zz0,⟨⟨⟨rfl,rfl⟩,trivial⟩,rfl,rfl,rfl⟩,?_⟩;(conv=>whnf);rw [show up (s::r) m=(m,s::r) by simp [up,c]] at hu;subst hu;refine zao [(0,some 31)] rfl rfl trivial rfl rfl ⟨⟨rfl,.inl ⟨31,rfl,rfl⟩⟩,trivial⟩
def xie (R:Int×List Span) (b:List Span) (m:Int) (o:List Span):Prop:=(o=[]/\R=up b m)\/(R=(m,o++b)/\∀ s∈b,m+1<s.lo)
theorem xar (l:List Span) (n:Int) (hr:zjt l) (hl:∀ s∈l,s.hi<=1099511627776) (hb:l.length<2 ^ 39) (h1:-1099511627776<=n) (h2:n<=1099511627776) :
 zan Tryz.prog 173 [zas l,i64 n] zad (.tup [i64 (up l n).1,.own 0]) (lk .free [(0,.live (.row 199 2 ((up l n).2.map Span.row)))]):=by
 refine zap mixed Tryz.func173 zz4 [] (fun _=>.inl rfl) ?_;generalize hR:up l n=R;(conv=>whnf);refine ⟨{x:(List Span×List Span)×Int×List Span // l=x.1.1++x.1.2/\xie R x.1.2 x.2.1 x.2.2/\-1099511627776<=x.2.1/\x.2.1<=1099511627776/\x.2.2.length<=x.1.1.length},fun | ⟨((a,b),m,o),_⟩=>hs 33 [(1,i64 m),(6,.own 900),(9,zas l),(10,i64 l.length),(11,i64 a.length)] [(900,.live (.row 199 2 (o.map Span.row)))],fun x=>x.1.1.2.length,⟨(([],l),n,[]),rfl,.inl ⟨rfl,hR.symm⟩,h1,h2,zy23 _⟩,?_,?_⟩
 . exact (zbi [(900,none)])
 rintro ⟨⟨⟨a,b⟩,m,o⟩,h,ht,hm1,hm2,ho⟩;dsimp only at h ht hm1 hm2 ho;have hlen:l.length=a.length+b.length:=by rw [h];simp
 (conv=>whnf);cases b with
 | nil =>
  rw [zy12] at hlen;refine sN ?_;have hR2:R=(m,o):=by
   rcases ht with ⟨h1,h2⟩ | ⟨h1,h2⟩
   . rw [h2,h1];rfl
   . rw [h1,zy4]
  subst hR2;refine zao [(0,some 900)] rfl rfl trivial rfl rfl ⟨⟨rfl,.inl ⟨900,rfl,rfl⟩⟩,trivial⟩
 | cons s r =>
  rw [zy6] at hlen;have hs:=hl s zz104;have hrs:zjt (s::r):=by rw [h] at hr;exact (zhh.1 hr).2.1
  refine sT ?_;refine zaj h rfl (zw ?_);refine sF ?_;by_cases c:s.lo<=m+1
  . obtain ⟨rfl,htt⟩:o=[]/\R=up r (if s.hi>m then s.hi else m):=by
     rcases ht with ⟨h1,h2⟩ | ⟨h1,h2⟩
     . exact ⟨h1,by rw [h2,up,zy1 c]⟩
     . have:=h2 s zz5;omega
    refine sT ?_;by_cases c2:s.hi>m
    . refine sT ?_
      refine sF ?_;rw [zy1 c2] at htt;exact ⟨⟨((a++[s],r),s.hi,[]),zag h,.inl ⟨rfl,htt⟩,by dsimp only;omega,hs,by simp⟩,(zbi [(900,some 900)]),by simp⟩
    . refine sN ?_
      refine sF ?_;rw [zy0 c2] at htt;exact ⟨⟨((a++[s],r),m,[]),zag h,.inl ⟨rfl,htt⟩,hm1,hm2,by simp⟩,(zbi [(900,some 900)]),by simp⟩
  . have ht2:xie R r m (o++[s]):=by
     refine .inr ?_;rcases ht with ⟨h1,h2⟩ | ⟨h1,h2⟩
     . rw [h2,h1,up,zy0 c]
       exact ⟨rfl,fun t ht=>by have:=hrs.1;have:=hrs.2.2.2.1 t ht;omega⟩
     . exact ⟨by rw [h1];simp,fun t ht=>h2 t (by simp [ht])⟩
    refine sN ?_;refine zaa (c:=((o.map Span.row).length+1)*16<=140737488355328) zz3 (zw ?_);refine sF ?_;exact ⟨⟨((a++[s],r),m,o++[s]),zag h,ht2,hm1,hm2,by simp;omega⟩,(zaz [(900,some 29)] zz49),by simp⟩
instance:DecidableEq Span:=fun a b=>decidable_of_iff (a.lo=b.lo/\a.hi=b.hi) ⟨fun h=>by cases a;cases b;simp_all,fun h=>by rw [h];simp⟩
end Ser
namespace Ser
def p1 (n:Int):List Span->Int×Int->Int×Int
 | [],p=>p
 | s::r,p=>p1 n r (if s.hi=n-1 then (s.lo,p.2) else if s.lo=n+1 then (p.1,s.hi) else p)
def p2 (n lo hi:Int):List Span->Bool->List Span
 | [],put=>if put then [] else [⟨lo,hi⟩]
 | s::r,put=>if s.hi=n-1\/s.lo=n+1 then p2 n lo hi r put else if put=false/\s.lo>n then ⟨lo,hi⟩::s::p2 n lo hi r true else s::p2 n lo hi r put
theorem ygd {n:Int} {r:List Span}:∀ {a:List Span} {p:Int×Int},(∀ s∈a,s.hi<n-1/\s.lo<=s.hi)->p1 n (a++r) p=p1 n r p
 | [],p,_=>rfl
 | s::a,p,h=>by
  have h1:=h s zz5;rw [zy40,p1,zy0 (by omega),zy0 (by omega)];exact ygd fun s hs=>h s (by simp [hs])
theorem zvq {n:Int}:∀ {a:List Span} {p:Int×Int},(∀ s∈a,n+1<s.lo/\s.lo<=s.hi)->p1 n a p=p
 | [],p,_=>rfl
 | s::a,p,h=>by
  have h1:=h s zz5;rw [p1,zy0 (by omega),zy0 (by omega)];exact zvq fun s hs=>h s (by simp [hs])
theorem yge {n lo hi:Int} {r:List Span}:∀ {a:List Span},(∀ s∈a,s.hi<n-1/\s.lo<=s.hi)->p2 n lo hi (a++r) false=a++p2 n lo hi r false
 | [],_=>rfl
 | s::a,h=>by
  have h1:=h s zz5;rw [zy40,p2,zy0 (by omega),zy0 (by omega),zy40,yge fun s hs=>h s (by simp [hs])]
theorem xby {n lo hi:Int}:∀ {a:List Span},(∀ s∈a,n+1<s.lo/\s.lo<=s.hi)->p2 n lo hi a true=a
 | [],_=>rfl
 | s::a,h=>by
  have h1:=h s zz5;rw [p2,zy0 (by omega),zy0 (by simp),xby fun s hs=>h s (by simp [hs])]
theorem ybq {n lo hi:Int} {a:List Span} (h:∀ s∈a,n+1<s.lo/\s.lo<=s.hi):p2 n lo hi a false=⟨lo,hi⟩::a:=by
 cases a with
 | nil=>rfl
 | cons s a =>
  have h1:=h s zz5;rw [p2,zy0 (by omega),zy1 ⟨rfl,by omega⟩,xby fun s hs=>h s (by simp [hs])]
theorem xef {l:List Span} {n:Int} (h:zjt l) (hn:has l n=false):p2 n (p1 n l (n,n)).1 (p1 n l (n,n)).2 l false=add l n:=by
 have hsp:=split l n;have hab:=h;rw [hsp] at hab;obtain ⟨ra,rb,rab⟩:=zhh.1 hab;have hlow:=zpd (l:=l) (n:=n);have habv:=zzx h hn;have hadd:add l n=(ztp n (below l n)).1++⟨(ztp n (below l n)).2,(zou n (zfo l n)).1⟩::(zou n (zfo l n)).2:=by rw [add,hn];rfl
 rw [hadd];generalize below l n=A at *
 generalize zfo l n=B at *
 subst hsp;have hA:∃ a:List Span,(∀ s∈a,s.hi<n-1/\s.lo<=s.hi)/\(A=a/\ztp n A=(a,n)\/∃ s,A=a++[s]/\s.hi=n-1/\ztp n A=(a,s.lo)):=by
  rcases zgd A with rfl | ⟨a,s,rfl⟩
  . exact ⟨[],by simp,.inl ⟨rfl,rfl⟩⟩
  . obtain ⟨r1,r2,r3⟩:=zhh.1 ra
    have hs:=hlow s zz5;have hs2:=r2.1;have hal:∀ t∈a,t.hi<n-1/\t.lo<=t.hi:=fun t ht=>by
     have:=r3 t ht s zz5;have:=(zhi r1 t ht).1;omega
    rw [zim];by_cases c:s.hi=n-1
    . exact ⟨a,hal,.inr ⟨s,rfl,c,by rw [zy1 c]⟩⟩
    . refine ⟨a++[s],fun t ht=>?_,.inl ⟨rfl,by rw [zy0 c]⟩⟩
      rcases zy20.1 ht with ht | ht
      . exact hal t ht
      . rw [zy25.1 ht];omega
 have hB:∃ b:List Span,(∀ s∈b,n+1<s.lo/\s.lo<=s.hi)/\(B=b/\zou n B=(n,b)\/∃ s,B=s::b/\s.lo=n+1/\s.lo<=s.hi/\zou n B=(s.hi,b)):=by
  cases B with
  | nil=>exact ⟨[],by simp,.inl ⟨rfl,rfl⟩⟩
  | cons s b =>
   have hs:=habv s zz5;have hs2:=rb.1;have hbl:∀ t∈b,n+1<t.lo/\t.lo<=t.hi:=fun t ht=>by
    have:=rb.2.2.2.1 t ht;have:=(zhi rb.2.2.2.2 t ht).1;omega
   by_cases c:s.lo=n+1
   . exact ⟨b,hbl,.inr ⟨s,rfl,c,hs2,by simp [zou,c]⟩⟩
   . refine ⟨s::b,fun t ht=>?_,.inl ⟨rfl,by simp [zou,c]⟩⟩
     rcases zy13.1 ht with rfl | ht
     . omega
     . exact hbl t ht
 obtain ⟨a,ha,hA⟩:=hA;obtain ⟨b,hb,hB⟩:=hB;rcases hA with ⟨rfl,eA⟩ | ⟨s,rfl,es,eA⟩<;>rcases hB with ⟨rfl,eB⟩ | ⟨t,rfl,et,et2,eB⟩<;>rw [eA,eB]
 . rw [ygd ha,zvq hb,yge ha,ybq hb]
 . rw [ygd ha,p1,zy0 (by omega),zy1 et,zvq hb,yge ha,p2,zy1 (.inr et),ybq hb]
 . rw [zy27,ygd ha,List.singleton_append,p1,zy1 es,zvq hb,yge ha,p2,zy1 (.inl es),ybq hb]
 . rw [zy27,ygd ha,List.singleton_append,p1,zy1 es,p1,zy0 (by omega),zy1 et,zvq hb,yge ha,p2,zy1 (.inl es),p2,zy1 (.inr et),ybq hb]
theorem ywy (l:List Span) (n:Int) (hn:has l n=false) (hl:zjt l) (hb:l.length<2 ^ 39) (h1:-1099511627776<=n) (h2:n<=1099511627776) :
 zan Tryz.prog 174 [zas l,i64 n] zad (.own 0) (lk .free [(0,.live (.row 199 2 ((add l n).map Span.row)))]):=by
 refine zap mixed Tryz.func174 zz4 [] (fun _=>.inl rfl) ?_;(conv=>whnf)
 (refine cL ?_;refine dL (ykr l n zz0) ?_)
 rw [hn,<- xef hl hn];generalize hP:p1 n l (n,n)=P;generalize hR:p2 n P.1 P.2 l false=R;(conv=>whnf);refine ⟨{x:(List Span×List Span)×Int×Int // l=x.1.1++x.1.2/\p1 n x.1.2 x.2=P},fun | ⟨((a,b),lo,hi),_⟩=>hs 88 [(0,zas l),(1,i64 n),(5,i64 lo),(6,i64 hi),(7,.p (.v (.slice none 0 0))),(19,zas l),(20,i64 l.length),(21,i64 a.length)] [],fun x=>x.1.1.2.length,⟨(([],l),n,n),rfl,hP⟩,?_,?_⟩
 . exact (zbi [])
 rintro ⟨⟨⟨a,b⟩,lo,hi⟩,h,ht⟩;dsimp only at h ht;have hlen:l.length=a.length+b.length:=by rw [h];simp
 (conv=>whnf);cases b with
 | nil =>
  rw [zy12] at hlen;refine sN ?_;rw [p1] at ht;subst ht;refine ⟨{x:(List Span×List Span)×Bool×List Span // l=x.1.1++x.1.2/\R=x.2.2++p2 n lo hi x.1.2 x.2.1/\x.2.2.length<=2*x.1.1.length},fun | ⟨((a,b),put,o),_⟩=>hs 88 [(1,i64 n),(5,i64 lo),(6,i64 hi),(7,.own 900),(10,zbj put),(42,zas l),(43,i64 l.length),(44,i64 a.length)] [(900,.live (.row 199 2 (o.map Span.row)))],fun x=>x.1.1.2.length,⟨(([],l),false,[]),rfl,hR.symm,zy107 _⟩,?_,?_⟩
  . exact (zbi [(900,none)])
  clear h hlen;rintro ⟨⟨⟨a,b⟩,put,o⟩,h,ht,ho⟩;dsimp only at h ht ho;have hlen:l.length=a.length+b.length:=by rw [h];simp
  (conv=>whnf);cases b with
  | nil =>
   rw [zy12] at hlen;refine sN ?_;cases put with
   | true =>
    have hR2:R=o:=by rw [ht,p2,zy1 rfl,zy4]
    conv=>whnf
    try refine sG ?_
    subst hR2;refine zao [(0,some 900)] rfl rfl trivial rfl rfl ⟨⟨rfl,.inl ⟨900,rfl,rfl⟩⟩,trivial⟩
   | false =>
    have hR2:R=o++[⟨lo,hi⟩]:=by rw [ht,p2,zy0 (by simp)]
    conv=>whnf
    try refine sG ?_
    refine zaa (c:=((o.map Span.row).length+1)*16<=140737488355328) zz3 (zw ?_)
    try refine sG ?_
    subst hR2;refine zao [(0,some 86)] rfl rfl trivial rfl rfl ⟨⟨rfl,.inl ⟨86,rfl,?_⟩⟩,trivial⟩;exact zbc (f:=Span.row) (x:=⟨lo,hi⟩) rfl rfl
  | cons s r =>
   rw [zy6] at hlen;rw [p2] at ht;refine sT ?_;refine zaj h rfl (zw ?_);refine sF ?_;by_cases c1:s.hi=n-1
   . rw [zy1 (.inl c1)] at ht
     exact yy139
   refine sN ?_;refine sF ?_;by_cases c2:s.lo=n+1
   . rw [zy1 (.inr c2)] at ht
     exact yy139
   rw [zy0 (by simp [c1,c2])] at ht;refine sN ?_;by_cases c3:put=false/\s.lo>n
   . rw [zy1 c3] at ht
     obtain ⟨rfl,c3⟩:=c3;(conv=>whnf)
     try refine sG ?_
     refine sT ?_;refine zaa (c:=((o.map Span.row).length+1)*16<=140737488355328) zz3 (zw ?_)
     try refine sG ?_
     refine zaa (c:=((o.map Span.row++[[pi lo,pi hi]]).length+1)*16<=140737488355328) zz3 (zw ?_)
     try refine sG ?_
     refine sF ?_;refine ⟨⟨((a++[s],r),true,o++[⟨lo,hi⟩,s]),zag h,by rw [‹R=o++⟨lo,hi⟩::s::p2 n lo hi r true›];simp,by simp;omega⟩,(zaz [(900,some 77)] (by repeat' (first | exact z0 | refine z1 ?_ | refine ⟨?_,?_⟩ | ((exact zar (by simp;rfl))) | exact z2))),by simp⟩
   . rw [zy0 c3] at ht
     cases put with
     | true =>
      conv=>whnf
      try refine sG ?_
      refine zaa (c:=((o.map Span.row).length+1)*16<=140737488355328) zz3 (zw ?_)
      try refine sG ?_
      refine sF ?_;refine ⟨⟨((a++[s],r),true,o++[s]),zag h,by rw [ht];simp,by simp;omega⟩,(zaz [(900,some 77)] zz49),by simp⟩
     | false =>
      have c4:¬ s.lo>n:=fun h=>c3 ⟨rfl,h⟩
      conv=>whnf
      try refine sG ?_
      refine sN ?_;refine zaa (c:=((o.map Span.row).length+1)*16<=140737488355328) zz3 (zw ?_)
      try refine sG ?_
      refine sF ?_;refine ⟨⟨((a++[s],r),false,o++[s]),zag h,by rw [ht];simp,by simp;omega⟩,(zaz [(900,some 77)] zz49),by simp⟩
 | cons s r =>
  rw [zy6] at hlen;rw [p1] at ht;refine sT ?_;refine zaj h rfl (zw ?_);refine sF ?_;by_cases c1:s.hi=n-1
  . rw [zy1 c1] at ht
    refine sT ?_;refine sF ?_;exact ⟨⟨((a++[s],r),s.lo,hi),zag h,ht⟩,(zbi []),by simp⟩
  . rw [zy0 c1] at ht
    refine sN ?_;refine sF ?_;by_cases c2:s.lo=n+1
    . rw [zy1 c2] at ht
      refine sT ?_;refine sF ?_;exact ⟨⟨((a++[s],r),lo,s.hi),zag h,ht⟩,(zbi []),by simp⟩
    . rw [zy0 c2] at ht
      refine sN ?_;refine sF ?_;exact ⟨⟨((a++[s],r),lo,hi),zag h,ht⟩,(zbi []),by simp⟩
end Ser
namespace Rcv
open Srt Jn Ser
def ybu (r:Receiver) (a b c d:HV):List HV:=[i64 r.config.streams,i64 r.config.part,i64 r.config.packet,i64 r.config.paths,i64 r.config.turns,i64 r.config.waiting,i64 r.config.first,i64 r.cum,a,b,c,d]
abbrev xej (l:List Span):zai:=.live (.row 199 2 (l.map Span.row))
abbrev xca (l:List zav):zai:=.live (.row 162 12 (l.map zav.row))
abbrev zxc (l:List Int):zai:=.live (.row 3 1 (l.map fun n=>[pi n]))
abbrev xil (l:List zax):zai:=.live (.row 56 4 (l.map zax.row))
abbrev xgo (r:Receiver) (a b c d:Nat):HV:=.agg (ybu r (.own a) (.own b) (.own c) (.own d))
abbrev yxu (r:Receiver) (a b c d:Nat) (L:List (Nat×zai)):List (Nat×zai):=(a,xej r.zas)::(b,xca r.pieces)::(c,zxc r.zbp)::(d,xil r.log)::L
abbrev tkH (r:Receiver):List (Nat×zai):=(1000,.live (.cells 225 (ybu r (.own 1001) (.own 1002) (.own 1003) (.own 1004))))::yxu r 1001 1002 1003 1004 []
abbrev tkD (r:Receiver):List (Nat×zai):=(1000,.live (.cells 225 (ybu r (.own 0) (.own 1) (.own 2) (.own 3))))::yxu r 0 1 2 3 [(1001,.dead),(1002,.dead),(1003,.dead),(1004,.dead)]
def yij (c:Config):Receiver:=⟨c,c.first-1,[],[],List.replicate (max c.streams 0).toNat 0,[]⟩
theorem zqh (c:Config) (h1:-9223372036854775808<c.first) (h2:c.first<=9223372036854775807) (h3:c.streams<=1099511627776) :
 zan Tryz.prog 110 [c.hv] zad (xgo (yij c) 0 1 2 3) (lk .free (yxu (yij c) 0 1 2 3 [])):=by
 refine zap mixed Tryz.func110 zz4 [] (fun _=>.inl rfl) ?_;exact yy25
theorem zwm (c:Config) (h1:-9223372036854775808<c.first) (h2:c.first<=9223372036854775807) (h3:c.streams<=1099511627776) :
 zan Tryz.prog 106 [c.hv] zad (xgo (yij c) 0 1 2 3) (lk .free (yxu (yij c) 0 1 2 3 [])):=by
 refine zap mixed Tryz.func106 zz4 [] (fun _=>.inl rfl) ?_;exact yy25
structure Fit (r:Receiver):Prop where
 zas:r.zas.length<2 ^ 36
 pieces:r.pieces.length<2 ^ 22
 bytes:tot r.pieces<2 ^ 22
 zbp:r.zbp.length<2 ^ 36
 log:r.log.length<2 ^ 36
 data:∀ a∈r.log,a.data.length<2 ^ 40
abbrev yie:List HV:=[i64 0,i64 0,i64 0,i64 0,i64 0,i64 0,i64 0,i64 0,zee,zee,zee,zee]
theorem zdt (r:Receiver) (hr:Fit r):zan Tryz.prog 111 [r.hv] zad (xgo r 0 1 2 3) (lk .free (yxu r 0 1 2 3 [])):=by
 obtain ⟨h1,h2,h3,h4,h5,h6⟩:=hr;refine zap mixed Tryz.func111 zz4 [] (fun _=>.inl rfl) ?_;(conv=>whnf)
 (refine zat [(0,11)]  ?_;(conv=>whnf);refine dO (Cl.zfp r.zas zz0) ?_)
 (refine zat [(0,14)]  ?_;(conv=>whnf);refine dO (Cl.zqu r.zbp zz0) ?_)
 refine sD ?_;refine ⟨{x:List zav×List zav // r.pieces=x.1++x.2},fun | ⟨(A,B),_⟩=>hs 56 [(1,.ptr 1 0),(2,.ptr 2 0),(3,.own 900),(18,pieces r.pieces),(19,i64 r.pieces.length),(20,i64 A.length)] [(1,.live (.cells 37 (ybu r (.own 11) (pieces r.pieces) (.own 14) (.p (.sl 4 (r.log.map zax.row)))))),(2,.live (.cells 37 yie)),(11,xej r.zas),(14,zxc r.zbp),(900,xca A)],fun x=>x.1.2.length,⟨([],r.pieces),rfl⟩,?_,?_⟩
 . exact (zbi [(1,some 1),(2,some 2),(11,some 11),(14,some 14),(900,none)])
 rintro ⟨⟨A,B⟩,h⟩;dsimp only at h;have hl:r.pieces.length=A.length+B.length:=by rw [h];simp
 (conv=>whnf);cases B with
 | cons p B =>
  have hp:p.chunk.data.length<=tot r.pieces:=yxo zz104;rw [zy6] at hl;refine sT ?_;refine zaj h rfl (zw ?_)
  (refine zat [(0,27)]  ?_;(conv=>whnf);refine dO (Cl.zdb p.chunk.data zz0) ?_)
  refine zaa (c:=((A.map zav.row).length+1)*136<=140737488355328) zz3 (zw ?_);refine sF ?_;refine ⟨⟨(A++[p],B),by rw [h];simp⟩,(zaz [(1,some 1),(2,some 2),(11,some 11),(14,some 14),(900,some 33)] (by repeat' (first | exact z0 | refine z1 ?_ | refine ⟨?_,?_⟩ | ((exact zbc (f:=zav.row) rfl rfl)) | exact z2))),by simp⟩
 | nil =>
  rw [zy12] at hl;rw [zy4] at h;refine sN ?_;refine ⟨{x:List zax×List zax // r.log=x.1++x.2},fun | ⟨(A,B),_⟩=>hs 56 [(1,.ptr 1 0),(2,.ptr 2 0),(3,.own 900),(6,.own 901),(36,.p (.sl 4 (r.log.map zax.row))),(37,i64 r.log.length),(38,i64 A.length)] [(1,.live (.cells 37 (ybu r (.own 11) (pieces r.pieces) (.own 14) (.p (.sl 4 (r.log.map zax.row)))))),(2,.live (.cells 37 yie)),(11,xej r.zas),(14,zxc r.zbp),(900,xca r.pieces),(901,xil A)],fun x=>x.1.2.length,⟨([],r.log),rfl⟩,?_,?_⟩
  . exact (zaz [(1,some 1),(2,some 2),(11,some 11),(14,some 14),(900,some 900),(901,none)] zz89)
  rintro ⟨⟨A,B⟩,h⟩;dsimp only at h;have hl:r.log.length=A.length+B.length:=by rw [h];simp
  (conv=>whnf);cases B with
  | cons p B =>
   have hp:=h6 p zz104;rw [zy6] at hl;refine sT ?_;refine zaj h rfl (zw ?_)
   (refine zat [(0,44)]  ?_;(conv=>whnf);refine dO (Cl.zdb p.data zz0) ?_)
   refine zaa (c:=((A.map zax.row).length+1)*48<=140737488355328) zz3 (zw ?_);refine sF ?_;refine ⟨⟨(A++[p],B),by rw [h];simp⟩,(zaz [(1,some 1),(2,some 2),(11,some 11),(14,some 14),(900,some 900),(901,some 49)] (by repeat' (first | exact z0 | refine z1 ?_ | refine ⟨?_,?_⟩ | ((exact zbc (f:=zax.row) rfl rfl)) | exact z2))),by simp⟩
  | nil =>
   rw [zy12] at hl;rw [zy4] at h;refine sN ?_;refine zao [(0,some 11),(1,some 900),(2,some 14),(3,some 901)] rfl rfl trivial rfl rfl ⟨⟨rfl,.inl ⟨11,rfl,rfl⟩⟩,⟨rfl,.inl ⟨900,rfl,rfl⟩⟩,⟨rfl,.inl ⟨14,rfl,rfl⟩⟩,⟨rfl,.inl ⟨901,rfl,?_⟩⟩,trivial⟩;exact zar (by rw [h])
theorem yhk (r:Receiver) (h2:r.pieces.length<2 ^ 40) (h3:tot r.pieces<2 ^ 60):zan Tryz.prog 179 [r.hv] zad (i64 (tot r.pieces:Nat)) zad:=by
 refine zal mixed Tryz.func179 zz4 ?_;exact yy27
theorem zsa (r:Receiver) (h2:r.pieces.length<2 ^ 40) (h3:tot r.pieces<2 ^ 60):zan Tryz.prog 57 [r.hv] zad (i64 (tot r.pieces:Nat)) zad:=by
 refine zal mixed Tryz.func57 zz4 ?_;exact yy27
def zgl (s m:Int) (o:Bool) (p:zav):Bool:=decide (p.chunk.stream=s)&&decide (p.chunk.mid=m)&&(p.chunk.ordered==o)
theorem ywv (p:zav) (s m:Int) (o:Bool):zan Tryz.prog 199 [.rp p.row,i64 s,i64 m,zbj o] zad (zbj (zgl s m o p)) zad:=by
 refine zal mixed Tryz.func199 zz4 ?_;(conv=>whnf);by_cases c1:p.chunk.stream=s
 . refine zac zz39 ?_;conv=>whnf
   by_cases c2:p.chunk.mid=m
   . refine zac zz29 ?_;conv=>whnf
     simp [zgl,c1,c2]
   . refine zab zz29 (zw ?_)
     simp [zgl,c2]
 . refine zab zz39 (zw ?_)
   simp [zgl,c1]
theorem yqm (s m:Int) (o:Bool) (p:zav):zan Tryz.prog 211 [p.hv,.rp [pi s],.rp [pi m],.rp [pb o]] zad (zbj (zgl s m o p)) zad:=by
 refine zal mixed Tryz.func211 zz4 ?_;(conv=>whnf)
 ((refine zbg ?_;(conv=>whnf);refine ⟨_,ywv p s m o,rfl,?_⟩;conv=>whnf);try refine sG ?_)
def zpf (r:Receiver) (s m:Int) (o:Bool):Receiver:={r with pieces:=r.pieces.filter fun p=>!zgl s m o p}
theorem zwg (r:Receiver) (s m:Int) (o:Bool) (h2:r.pieces.length<2 ^ 38) :
 zan Tryz.prog 201 [.ptr 1000 0,i64 s,i64 m,zbj o] (lk .free (tkH r)) (.tup []) (lk .free (tkD (zpf r s m o))):=by
 refine zap mixed Tryz.func201 zz4 [1000,1001,1002,1003,1004] zbq ?_;(conv=>whnf)
 (refine zae [false,true] [(1000,1002)] [(0,15)] ?_;(conv=>whnf);refine dG (Cl.yph (fun p=>yqm s m o p) r.pieces zz0) ?_)
 (exact zci (pK5 [(0,some 1001),(1,some 15),(2,some 1003),(3,some 1004)]))
def dlv (r:Receiver) (s m:Int) (o:Bool):Receiver×Bool:=match join (r.pieces.filter (zgl s m o)) with
 | none=>(r,false)
 | some b=>({zpf r s m o with log:=r.log++[⟨s,m,o,b⟩]},true)
theorem zkr (f:zav->Bool):∀ l:List zav,tot (l.filter f)<=tot l
 | []=>zy23 _
 | p::l=>by
  have:=zkr f l;rw [zy49];split
  . rw [zff,zff];omega
  . rw [zff];omega
theorem zmo (r:Receiver) (s m:Int) (o:Bool) (h2:r.pieces.length<2 ^ 37) (h3:tot r.pieces<2 ^ 40) (h4:r.log.length<2 ^ 38) :
 zan Tryz.prog 183 [.ptr 1000 0,i64 s,i64 m,zbj o] (lk .free (tkH r)) (zbj (dlv r s m o).2) (lk .free (tkD (dlv r s m o).1)):=by
 refine zap mixed Tryz.func183 zz4 [1000,1001,1002,1003,1004] zbq ?_;(conv=>whnf);refine ⟨{x:List zav×List zav // r.pieces=x.1++x.2},fun | ⟨(A,B),_⟩=>hsP [1000,1001,1002,1003,1004] 61 [(0,.ptr 1000 0),(1,i64 s),(2,i64 m),(3,zbj o),(8,zbj false),(9,.own 900),(18,.own 1002),(19,i64 r.pieces.length),(20,i64 A.length)] (tkH r++[(900,xca (A.filter (zgl s m o)))]),fun x=>x.1.2.length,⟨([],r.pieces),rfl⟩,?_,?_⟩
 . exact (zcb (pK5 [(900,none)]) zz2)
 rintro ⟨⟨A,B⟩,h⟩;dsimp only at h;have hl:r.pieces.length=A.length+B.length:=by rw [h];simp
 have hf:=zy30 (zgl s m o) A;(conv=>whnf);cases B with
 | cons p B =>
  rw [zy6] at hl;refine sT ?_;refine sO ?_;refine zaj h rfl (zw ?_)
  (refine cL ?_;refine dL (ywv p s m o) ?_)
  cases hp:zgl s m o p with
  | true =>
   conv=>whnf
   try refine sG ?_
   refine zaa (c:=(((A.filter (zgl s m o)).map zav.row).length+1)*136<=140737488355328) zz3 (zw ?_)
   try refine sG ?_
   refine sF ?_;exact ⟨⟨(A++[p],B),by rw [h];simp⟩,(zcb (pK5 [(900,some 31)]) (by repeat' (first | exact z0 | refine z1 ?_ | refine ⟨?_,?_⟩ | ((exact zbc (f:=zav.row) (by rw [zy42,zy49,zy1 hp];rfl) rfl)) | exact z2))),by simp⟩
  | false =>
   conv=>whnf
   try refine sG ?_
   refine sF ?_;exact ⟨⟨(A++[p],B),by rw [h];simp⟩,(zcb (pK5 [(900,some 900)]) (by repeat' (first | exact z0 | refine z1 ?_ | refine ⟨?_,?_⟩ | ((exact zar (by rw [zy42,zy49,zy0 (by rw [hp];decide)];simp))) | exact z2))),by simp⟩
 | nil =>
  rw [zy12] at hl;rw [zy4] at h;have ht:=zkr (zgl s m o) A;have hA:tot A=tot r.pieces:=by rw [h]
  have hd:dlv r s m o=match join (A.filter (zgl s m o)) with
   | none=>(r,false)
   | some b=>({zpf r s m o with log:=r.log++[⟨s,m,o,b⟩]},true):=by rw [dlv,h]
  have ps:=ywq (A.filter (zgl s m o)) zz0 zz0;refine sN ?_;cases hj:join (A.filter (zgl s m o)) with
  | none =>
   rw [hj] at hd ps;rw [hd]
   (refine zat [(0,35)]  ?_;(conv=>whnf);refine dO ps ?_)
   exact yy119
  | some b =>
   rw [hj] at hd ps;rw [hd]
   (refine zat [(0,35)]  ?_;(conv=>whnf);refine dO ps ?_)
   refine zaa (c:=((r.log.map zax.row).length+1)*48<=140737488355328) zz3 (zw ?_)
   try refine sG ?_
   (refine zae [] [(1000,1000),(1001,1001),(1002,1002),(1003,1003),(1004,52)] [(0,910),(1,911),(2,912),(3,913)] ?_;(conv=>whnf);refine dG (zwg {r with log:=r.log++[⟨s,m,o,b⟩]} s m o zz81) ?_ ⟨rfl,rfl,rfl,⟨zz1,⟨zz1,⟨zz1,⟨zz1,⟨⟨rfl,_,rfl,.inl ⟨rfl,zbc (f:=zax.row) (x:=⟨s,m,o,b⟩) rfl rfl⟩⟩,trivial⟩⟩⟩⟩⟩,⟨⟨rfl,rfl⟩,⟨⟨rfl,rfl⟩,⟨⟨rfl,rfl⟩,⟨⟨rfl,rfl⟩,trivial⟩⟩⟩⟩,rfl,rfl,rfl⟩)
   exact yy92
theorem yzb {l:List zav} {b:List UInt8} (h:join l=some b):0<l.length:=by
 unfold join at h;split at h
 . cases h
 . rename_i c;exact zy34.2 c
theorem zmy {r:Receiver} {s m:Int} {o:Bool} (h:(dlv r s m o).2=true):(dlv r s m o).1.pieces.length<r.pieces.length:=by
 unfold dlv at h ⊢;split
 . rename_i hj;rw [hj] at h;cases h
 . rename_i b hj
   have h1:=yzb hj;have h2:(r.pieces.filter fun p=>!zgl s m o p).length+(r.pieces.filter (zgl s m o)).length=r.pieces.length:=by
    induction r.pieces with
    | nil=>rfl
    | cons p l ih =>
     rw [zy49,zy49];cases zgl s m o p<;>simp<;>omega
   show (r.pieces.filter fun p=>!zgl s m o p).length<_;omega
theorem zio (r:Receiver) (s m:Int) (o:Bool):(dlv r s m o).1.zbp=r.zbp/\(dlv r s m o).1.cum=r.cum/\(dlv r s m o).1.zas=r.zas/\(dlv r s m o).1.config=r.config/\(dlv r s m o).1.pieces.length<=r.pieces.length/\tot (dlv r s m o).1.pieces<=tot r.pieces /\
 (dlv r s m o).1.log.length+(dlv r s m o).1.pieces.length<=r.log.length+r.pieces.length:=by
 have hl:=fun h=>zmy (r:=r) (s:=s) (m:=m) (o:=o) h
 unfold dlv at hl ⊢;split
 . exact ⟨rfl,rfl,rfl,rfl,zy23 _,zy23 _,zy23 _⟩
 . rename_i b hj
   rw [hj] at hl;have h1:=hl rfl;dsimp only [zpf] at h1 ⊢;refine ⟨rfl,rfl,rfl,rfl,zy30 _ _,zkr _ _,?_⟩;simp only [zy8,zy62];omega
def zxu (r:Receiver) (k:Nat):Receiver:={r with zbp:=r.zbp.set k (r.zbp[k]?.getD 0+1)}
def zwt:Nat->Receiver->Nat->Receiver
 | 0,r,_=>r
 | n+1,r,k=>if (dlv r k (tag (r.zbp[k]?.getD 0)) true).2 then zwt n (zxu (dlv r k (tag (r.zbp[k]?.getD 0)) true).1 k) k else (dlv r k (tag (r.zbp[k]?.getD 0)) true).1
def turns (r:Receiver) (k:Nat):Receiver:=zwt (r.pieces.length+1) r k
theorem zse (r:Receiver) (k:Nat):turns r k=if (dlv r k (tag (r.zbp[k]?.getD 0)) true).2 then turns (zxu (dlv r k (tag (r.zbp[k]?.getD 0)) true).1 k) k else (dlv r k (tag (r.zbp[k]?.getD 0)) true).1:=by
 have gen:∀ (n m:Nat) (r:Receiver),r.pieces.length<n->r.pieces.length<m->zwt n r k=zwt m r k:=by
  intro n
  induction n with
  | zero=>intro m r h;omega
  | succ n ih =>
   intro m r h1 h2;cases m with
   | zero=>omega
   | succ m =>
    rw [zwt,zwt];split
    . rename_i hd
      have:=zmy hd;exact ih m _ (by show (dlv r k _ true).1.pieces.length<n;omega) (by show (dlv r k _ true).1.pieces.length<m;omega)
    . rfl
 conv=>lhs;rw [turns,zwt]
 split
 . rename_i hd
   have:=zmy hd;exact gen _ _ _ (by show (dlv r k _ true).1.pieces.length<_;omega) (by show (dlv r k _ true).1.pieces.length<_;exact zy151 _)
 . rfl
structure yrv (r:Receiver) (k:Nat):Prop where
 pieces:r.pieces.length<2 ^ 22
 bytes:tot r.pieces<2 ^ 22
 log:r.log.length+r.pieces.length<2 ^ 37
 has:k<r.zbp.length
 lo:-(2 ^ 60)<r.zbp[k]?.getD 0
 hi:r.zbp[k]?.getD 0+r.pieces.length<2 ^ 60
theorem yxi (r:Receiver) (k:Nat) (hf:yrv r k) :
 zan Tryz.prog 182 [.ptr 1000 0,i64 k] (lk .free (tkH r)) (.tup []) (lk .free (tkD (turns r k))):=by
 generalize hT:turns r k=T;refine zap mixed Tryz.func182 zz4 [1000,1001,1002,1003,1004] zbq ?_;(conv=>whnf);refine ⟨{x:Receiver // yrv x k/\turns x k=T},fun | ⟨x,_⟩=>hsP [1000,1001,1002,1003,1004] 26 [(0,.ptr 1000 0),(1,i64 k)] ((1000,.live (.cells 225 (ybu x (.own 900) (.own 901) (.own 902) (.own 903))))::yxu x 900 901 902 903 [(1001,.dead),(1002,.dead),(1003,.dead),(1004,.dead)]),fun x=>x.1.pieces.length,⟨r,hf,hT⟩,?_,?_⟩
 . exact (zdj (pK5 [(900,some 1001),(901,some 1002),(902,some 1003),(903,some 1004)]))
 rintro ⟨x,⟨h1,h2,h3,h4,h5,h6⟩,he⟩;(conv=>whnf);refine sO ?_;refine zbz k rfl h4 (zw ?_);have hg:x.zbp[k]?.getD 0=x.zbp[k]:=by simp [h4]
 (refine cL ?_;refine dL (zdk _) ?_)
 have hstep:=zse x k;rw [he,hg] at hstep;rw [hg] at h5 h6;obtain ⟨k1,k2,k3,k4,k5,k6,k7⟩:=zio x k (tag x.zbp[k]) true;have hless:(dlv x k (tag x.zbp[k]) true).2=true->(dlv x k (tag x.zbp[k]) true).1.pieces.length<x.pieces.length:=fun h=>zmy h
 (refine zae [] [(1000,1000),(1001,900),(1002,901),(1003,902),(1004,903)] [(0,910),(1,911),(2,912),(3,913)] ?_;(conv=>whnf);refine dG (zmo x k (tag x.zbp[k]) true zz0 zz0 zz0) ?_)
 generalize hD:dlv x k (tag x.zbp[k]) true=D at *
 obtain ⟨y,ok⟩:=D;dsimp only at k1 k2 k3 k4 k5 k6 k7 hless hstep;have h4':k<y.zbp.length:=by rw [k1];exact h4
 have hyk:y.zbp[k]=x.zbp[k]:=by simp only [k1]
 cases ok with
 | false =>
  have hstep:T=y:=hstep;subst hstep;(conv=>whnf)
  try refine sG ?_
  exact yy92
 | true =>
  have hless:=hless rfl;(conv=>whnf)
  try refine sG ?_
  refine sO ?_;refine zbz k rfl h4' (zw ?_);rw [hyk];refine sF ?_;refine sO ?_;refine zbz k rfl h4' (zw ?_);have hb:(zxu y k).zbp[k]?.getD 0=x.zbp[k]+1:=by
   show (y.zbp.set k (y.zbp[k]?.getD 0+1))[k]?.getD 0=_;rw [zy41 h4',zy3 h4',hyk];rfl
  refine ⟨⟨zxu y k,⟨by show y.pieces.length<_;omega,by show tot y.pieces<_;omega,by show y.log.length+y.pieces.length<_;omega,by show k<(y.zbp.set k _).length;rw [zy26];exact h4',by rw [hb];omega,by rw [hb];show _+(y.pieces.length:Int)<_;omega⟩,?_⟩,(zcb (pK5 [(900,some 910),(901,some 911),(902,some 912),(903,some 913)]) zz24),by show y.pieces.length<x.pieces.length;omega⟩;rw [hstep];rfl
end Rcv
namespace Rcv
open Srt Jn Ser
theorem zwp (r:Receiver) (k:Nat) (z:Int) (hz:z=k) (hf:yrv r k) :
 zan Tryz.prog 182 [.ptr 1000 0,i64 z] (lk .free (tkH r)) (.tup []) (lk .free (tkD (turns r k))):=by
 subst hz;exact yxi r k hf
structure zuh (r:Receiver) (c:Chunk) (n:Int):Prop where
 kind:c.kind=1
 low:0<=c.stream
 high:c.stream<r.zbp.length
 zfo:r.cum<n
 fresh:has r.zas n=false
 room:n=r.cum+1\/(tot r.pieces:Int)+c.data.length<=400
def put (r:Receiver) (c:Chunk):Receiver :=
 {r with pieces:=r.pieces++[⟨zdd r.cum c.tag,c⟩],cum:=(up (add r.zas (zdd r.cum c.tag)) r.cum).1,zas:=(up (add r.zas (zdd r.cum c.tag)) r.cum).2}
instance xhi (r:Receiver) (c:Chunk) (n:Int):Decidable (zuh r c n) :=
 decidable_of_iff (c.kind=1/\0<=c.stream/\c.stream<r.zbp.length/\r.cum<n/\has r.zas n=false/\(n=r.cum+1\/(tot r.pieces:Int)+c.data.length<=400)) ⟨fun ⟨a,b,d,e,f,g⟩=>⟨a,b,d,e,f,g⟩,fun ⟨a,b,d,e,f,g⟩=>⟨a,b,d,e,f,g⟩⟩
def data (r:Receiver) (c:Chunk):Receiver:=if zuh r c (zdd r.cum c.tag) then (if c.ordered then turns (put r c) c.stream.toNat else (dlv (put r c) c.stream c.mid false).1) else r
structure xhk (r:Receiver) (c:Chunk):Prop where
 fit:Fit r
 zjt:zjt r.zas
 hi:∀ s∈r.zas,s.hi<=2 ^ 39
 cum1:-(2 ^ 39)<=r.cum
 cum2:r.cum<=2 ^ 39
 zbp:∀ t∈r.zbp,-(2 ^ 59)<t/\t<2 ^ 59
 data:c.data.length<2 ^ 21
 more:tot r.pieces<2 ^ 21
 many:r.pieces.length<2 ^ 21
theorem yry {l:List Span} {n M:Int} (h:Ser.zjt l) (h1:-9223372036854775808<=n) (h2:n<=9223372036854775807) (hl:∀ s∈l,s.hi<=M) (hn:n<=M):∀ s∈add l n,s.hi<=M:=by
 obtain ⟨r1,r2⟩:=yaa h h1 h2;intro s hs;have h3:=(zhi r1 s hs).1;have h4:has (add l n) s.hi=true:=yjm.2 ⟨s,hs,h3,zy75 _⟩;rw [r2,zy125] at h4;rcases h4 with h4 | h4
 . obtain ⟨t,ht,_,h5⟩:=yjm.1 h4
   have:=hl t ht;omega
 . have:s.hi=n:=by simpa using h4
   omega
theorem zzz (l:List Span) (n:Int):(add l n).length<=l.length+1:=by
 unfold add;split
 . omega
 . have h1:(ztp n (below l n)).1.length<=(below l n).length:=by
    unfold ztp;split
    . split
      . simp
      . exact zy23 _
    . exact zy23 _
   have h2:(zou n (zfo l n)).2.length<=(zfo l n).length:=by
    cases zfo l n with
    | nil=>exact zy23 _
    | cons t r=>simp only [zou];split<;>simp
   have h3:l.length=(below l n).length+(zfo l n).length:=by
    conv=>lhs;rw [split l n]
    exact zy8
   simp only [zy8,zy6];omega
theorem ywn (r:Receiver) (c:Chunk) (hf:xhk r c):zan Tryz.prog 152 [r.hv,c.hv] zad (xgo (data r c) 0 1 2 3) (lk .free (yxu (data r c) 0 1 2 3 [])):=by
 obtain ⟨h1,h2,h3,h4,h5,h6,h7,h8,h9⟩:=hf;obtain ⟨n1,n2,n3⟩:=ziv (a:=r.cum) (t:=c.tag) zz0 zz0;generalize hD:data r c=D;refine zap mixed Tryz.func152 zz4 [] (fun _=>.inl rfl) ?_;(conv=>whnf)
 (refine zat [(0,910),(1,911),(2,912),(3,913)]  ?_;(conv=>whnf);refine dO (zdt r h1) ?_)
 (refine cL ?_;refine dL (zkk r.cum c.tag) ?_)
 have no:¬ zuh r c (zdd r.cum c.tag)->D=r:=fun h=>by rw [<- hD,data,zy0 h]
 by_cases c1:c.kind=1
 case neg =>
  obtain rfl:=no fun h=>c1 h.1
  refine zac zz39 ?_;conv=>whnf
  exact yy58
 refine zab zz145 (zw ?_);by_cases c2:c.stream<0
 . obtain rfl:=no fun h=>by have:=h.2;omega
   refine zac zz29 ?_;conv=>whnf
   exact yy58
 refine zab zz29 (zw ?_);by_cases c3:c.stream>=r.zbp.length
 . obtain rfl:=no fun h=>by have:=h.3;omega
   refine zac zz87 (zw ?_);exact yy58
 refine zab zz87 (zw ?_);by_cases c4:zdd r.cum c.tag<=r.cum
 . obtain rfl:=no fun h=>by have:=h.4;omega
   refine zac zz117 (zw ?_);exact yy58
 refine zab zz117 (zw ?_)
 (refine cL ?_;refine dL (yoj r.zas (zdd r.cum c.tag) (by have:=h1.zas;omega)) ?_)
 cases c5:has r.zas (zdd r.cum c.tag) with
 | true =>
  obtain rfl:=no fun h=>by have:=h.5;rw [c5] at this;cases this
  (conv=>whnf);exact yy58
 | false =>
 (conv=>whnf);refine sF ?_;have g1:=h1.zas;have g2:=h1.log;have rest:zuh r c (zdd r.cum c.tag)->D=if c.ordered then turns (put r c) c.stream.toNat else (dlv (put r c) c.stream c.mid false).1:=fun h=>by rw [<- hD,data,zy1 h]
 have yyp:tot (put r c).pieces=tot r.pieces+c.data.length:=by show tot (r.pieces++[_])=_;rw [zmr,zff];rfl
 have hpl:(put r c).pieces.length=r.pieces.length+1:=by show (r.pieces++[_]).length=_;simp
 have hadd:=yry (n:=zdd r.cum c.tag) (M:=1099511627776) h2 zz0 zz0 (fun s hs=>by have:=h3 s hs;omega) zz0;have hal:=zzz r.zas (zdd r.cum c.tag);by_cases c6:zdd r.cum c.tag=r.cum+1
 case' pos =>
  have ok:zuh r c (zdd r.cum c.tag):=⟨c1,by omega,by omega,by omega,c5,.inl c6⟩
  refine zab (by simpa using c6) ?_;conv=>whnf
  ((refine zaw ?_ ?_;(· kernel_rfl);conv=>whnf);try refine sG ?_)
 case' neg =>
  refine zac (by simpa using c6) (zw ?_)
  (refine cL ?_;refine dL (yhk r zz0 zz0) ?_)
  refine sF ?_;by_cases c7:(tot r.pieces:Int)+c.data.length>400
  case pos =>
   obtain rfl:=no fun h=>by have:=h.6;omega
   refine sD ?_;refine zac zz148 (zw ?_);exact yy112
  have ok:zuh r c (zdd r.cum c.tag):=⟨c1,by omega,by omega,by omega,c5,.inr zz0⟩
  refine sD ?_;refine zab zz148 (zw ?_)
  try refine sG ?_
 all_goals (
  have rest:=rest ok
  (refine zat [(0,66)]  ?_;(conv=>whnf);refine dO (Cl.zdb c.data zz0) ?_)
  refine zaa (c:=((r.pieces.map zav.row).length+1)*136<=140737488355328) zz3 (zw ?_);refine sD ?_
  (refine zat [(0,88)]  ?_;(conv=>whnf);refine dO (xao r.zas (zdd r.cum c.tag) h2 zz0 zz0 zz0) ?_)
  (refine zat [(0,92)]  ?_;(conv=>whnf);refine dO (yxj (add r.zas (zdd r.cum c.tag)) r.cum hadd zz0 zz0 zz0) ?_)
  refine sD ?_;obtain ⟨k,hk⟩:∃ k:Nat,c.stream=k:=⟨c.stream.toNat,by omega⟩
  have hkl:k<r.zbp.length:=by omega
  have htk:(put r c).zbp[k]?.getD 0=r.zbp[k]:=by show r.zbp[k]?.getD 0=_;rw [zy3 hkl];rfl
  have htb:=h6 _ (zy51 hkl);refine zaf (fun ho=>?_) (fun ho=>?_)
  . rw [zy1 ho,show c.stream.toNat=k by omega] at rest
    subst rest;(conv=>whnf)
    (refine zae [] [(1000,10),(1001,92),(1002,78),(1003,912),(1004,913)] [(0,920),(1,921),(2,922),(3,923)] ?_;(conv=>whnf);refine dG (zwp (put r c) k _ hk ⟨by omega,by omega,by show r.log.length+_<_;omega,hkl,by rw [htk];omega,by rw [htk];omega⟩) ?_ ⟨rfl,rfl,rfl,⟨zz1,⟨zz1,⟨⟨rfl,_,rfl,.inl ⟨rfl,zbc (f:=zav.row) (x:=⟨zdd r.cum c.tag,c⟩) rfl rfl⟩⟩,⟨zz1,⟨zz1,trivial⟩⟩⟩⟩⟩,⟨⟨rfl,rfl⟩,⟨⟨rfl,rfl⟩,⟨⟨rfl,rfl⟩,⟨⟨rfl,rfl⟩,trivial⟩⟩⟩⟩,rfl,rfl,rfl⟩)
    (exact zci [(0,some 920),(1,some 921),(2,some 922),(3,some 923)])
  . rw [zy0 (by rw [ho];decide)] at rest
    subst rest;(conv=>whnf)
    (refine zae [] [(1000,10),(1001,92),(1002,78),(1003,912),(1004,913)] [(0,920),(1,921),(2,922),(3,923)] ?_;(conv=>whnf);refine dG (zmo (put r c) c.stream c.mid false zz0 zz0 (by show r.log.length<_;omega)) ?_ ⟨rfl,rfl,rfl,⟨zz1,⟨zz1,⟨⟨rfl,_,rfl,.inl ⟨rfl,zbc (f:=zav.row) (x:=⟨zdd r.cum c.tag,c⟩) rfl rfl⟩⟩,⟨zz1,⟨zz1,trivial⟩⟩⟩⟩⟩,⟨⟨rfl,rfl⟩,⟨⟨rfl,rfl⟩,⟨⟨rfl,rfl⟩,⟨⟨rfl,rfl⟩,trivial⟩⟩⟩⟩,rfl,rfl,rfl⟩)
    (exact zci [(0,some 920),(1,some 921),(2,some 922),(3,some 923)]))
def shift (c:Int) (s:Span):Span:=⟨s.lo-c,s.hi-c⟩
def zli (r:Receiver):Chunk:=⟨2,tag r.cum,0,0,0,false,false,[],(r.zas.take 6).map (shift r.cum),(if 0>400-(tot r.pieces:Int) then 0 else 400-(tot r.pieces:Int)),[]⟩
theorem zsc {α:Type} (A:List α) (x:α) (f:α->α):((A++[x]).take 6).map f=if A.length<6 then (A.take 6).map f++[f x] else (A.take 6).map f:=by
 split
 . rename_i h
   rw [zy37 (by simp;omega),zy37 (by omega)];simp
 . rename_i h
   rw [zy76 (by omega)]
abbrev xgs (r:Receiver) (v:HV):List HV:=[i64 2,i64 (zli r).tag,i64 0,i64 0,i64 0,zbj false,zbj false,zee,v,i64 (zli r).room,zee]
theorem yxb (r:Receiver) (h1:r.zas.length<2 ^ 40) (h2:r.pieces.length<2 ^ 40) (h3:tot r.pieces<2 ^ 60) (hc:-(2 ^ 60)<=r.cum) (hc2:r.cum<=2 ^ 60) (hsp:∀ s∈r.zas,-(2 ^ 61)<=s.lo/\s.lo<=2 ^ 61/\-(2 ^ 61)<=s.hi/\s.hi<=2 ^ 61) :
 zan Tryz.prog 154 [r.hv] zad (.agg (xgs r (.own 0))) (lk .free [(0,xej (zli r).zas)]):=by
 refine zap mixed Tryz.func154 zz4 [] (fun _=>.inl rfl) ?_;(conv=>whnf)
 (refine cL ?_;refine dL (zdk r.cum) ?_)
 (refine cL ?_;refine dL (yhk r zz0 zz0) ?_)
 refine sF ?_;refine sD ?_;refine ⟨{x:List Span×List Span // r.zas=x.1++x.2},fun | ⟨(A,B),_⟩=>hs 43 [(1,.ptr 1 0),(2,.ptr 2 0),(3,.ptr 3 0),(15,zas r.zas),(16,i64 r.zas.length),(17,i64 A.length)] [(1,.live (.cells 37 (ybu r (zas r.zas) (pieces r.pieces) (.p (.sl 1 (r.zbp.map fun n=>[pi n]))) (.p (.sl 4 (r.log.map zax.row)))))),(2,.live (.cells 61 [i64 0,i64 0,i64 0,i64 0,i64 0,zbj false,zbj false,zee,zee,i64 0,zee])),(3,.live (.cells 61 (xgs r (.own 900)))),(900,xej ((A.take 6).map (shift r.cum)))],fun x=>x.1.2.length,⟨([],r.zas),rfl⟩,?_,?_⟩
 . exact (zbi [(1,some 1),(2,some 2),(3,some 3),(900,none)])
 rintro ⟨⟨A,B⟩,h⟩;dsimp only at h;have hl:r.zas.length=A.length+B.length:=by rw [h];simp
 (conv=>whnf);cases B with
 | cons p B =>
  have hp:=hsp p zz104;rw [zy6] at hl;have hq:((A.take 6).map (shift r.cum)).length=min 6 A.length:=by simp
  refine sT ?_;refine zaj h rfl (zw ?_);have hsn:=zsc A p (shift r.cum);by_cases c:A.length<6
  . rw [zy1 c] at hsn
    refine sT ?_;refine sF ?_;refine sF ?_;refine zaa (c:=((((A.take 6).map (shift r.cum)).map Span.row).length+1)*16<=140737488355328) zz3 (zw ?_)
    try refine sG ?_
    refine sF ?_;refine ⟨⟨(A++[p],B),by rw [h];simp⟩,(zaz [(1,some 1),(2,some 2),(3,some 3),(900,some 39)] zz50),by simp⟩
  . rw [zy0 c] at hsn
    refine sN ?_;refine sF ?_;refine ⟨⟨(A++[p],B),by rw [h];simp⟩,(zaz [(1,some 1),(2,some 2),(3,some 3),(900,some 900)] zz52),by simp⟩
 | nil =>
  rw [zy12] at hl;rw [zy4] at h;refine sN ?_
  (exact zcx [(0,some 900)] (by repeat' (first | exact z0 | refine z1 ?_ | refine ⟨?_,?_⟩ | ((exact zar (by rw [<- h];rfl))) | exact z2)))
end Rcv
namespace Rcv
open Srt Jn Ser
def pass (r:Receiver) (k:Nat):Receiver:=zxu (if (dlv r k (tag (r.zbp[k]?.getD 0)) true).2 then (dlv r k (tag (r.zbp[k]?.getD 0)) true).1 else zpf (dlv r k (tag (r.zbp[k]?.getD 0)) true).1 k (tag (r.zbp[k]?.getD 0)) true) k
def zyw:Nat->Receiver->Nat->Receiver
 | 0,r,_=>r
 | n+1,r,k=>zyw n (pass r k) k
def ydc (r:Receiver) (k:Nat) (n:Int):Receiver:=zyw (n+1-r.zbp[k]?.getD 0).toNat r k
def zhw (r:Receiver) (s:zdw):Receiver :=
 if s.stream<0\/(r.zbp.length:Int)<=s.stream then r else if s.ordered=false then zpf r s.stream s.mid false
 else turns (ydc r s.stream.toNat (zdd (r.zbp[s.stream.toNat]?.getD 0) s.mid)) s.stream.toNat
structure xic (r:Receiver):Prop where
 pieces:r.pieces.length<2 ^ 22
 bytes:tot r.pieces<2 ^ 22
 log:r.log.length+r.pieces.length<2 ^ 37
 lo:∀ t∈r.zbp,-(2 ^ 57)<t
 hi:∀ t∈r.zbp,t<2 ^ 57
theorem zne (r:Receiver) (k:Nat):(pass r k).zbp=r.zbp.set k (r.zbp[k]?.getD 0+1)/\(pass r k).cum=r.cum/\(pass r k).zas=r.zas/\(pass r k).config=r.config/\(pass r k).pieces.length<=r.pieces.length/\tot (pass r k).pieces<=tot r.pieces /\
 (pass r k).log.length+(pass r k).pieces.length<=r.log.length+r.pieces.length:=by
 obtain ⟨h1,h2,h3,h4,h5,h6,h7⟩:=zio r k (tag (r.zbp[k]?.getD 0)) true;unfold pass;generalize dlv r k (tag (r.zbp[k]?.getD 0)) true=D at *
 obtain ⟨y,ok⟩:=D;dsimp only at h1 h2 h3 h4 h5 h6 h7 ⊢;cases ok with
 | true=>exact ⟨by show y.zbp.set _ (y.zbp[k]?.getD 0+1)=_;rw [h1],h2,h3,h4,h5,h6,h7⟩
 | false =>
  have f1:=zy30 (fun p=>!zgl k (tag (r.zbp[k]?.getD 0)) true p) y.pieces;have f2:=zkr (fun p=>!zgl k (tag (r.zbp[k]?.getD 0)) true p) y.pieces;refine ⟨by show y.zbp.set _ (y.zbp[k]?.getD 0+1)=_;rw [h1],h2,h3,h4,?_,?_,?_⟩
  . show (List.filter _ _).length<=_;omega
  . show tot (List.filter _ _)<=_;omega
  . show _+(List.filter _ _).length<=_;show y.log.length+_<=_;omega
theorem zwx {r:Receiver} {k:Nat} {n:Int} (h:k<r.zbp.length) (hn:r.zbp[k]?.getD 0<=n):ydc r k n=ydc (pass r k) k n:=by
 obtain ⟨h1,_⟩:=zne r k;unfold ydc;rw [h1,zy41 h];show zyw _ _ _=zyw (n+1-(r.zbp[k]?.getD 0+1)).toNat _ _;obtain ⟨j,hj⟩:∃ j,(n+1-r.zbp[k]?.getD 0).toNat=j+1:=⟨(n+1-r.zbp[k]?.getD 0).toNat-1,by omega⟩
 rw [hj,zyw,show (n+1-(r.zbp[k]?.getD 0+1)).toNat=j by omega]
theorem ydd {r:Receiver} {k:Nat} {n:Int} (hn:n<r.zbp[k]?.getD 0):ydc r k n=r:=by
 unfold ydc;rw [show (n+1-r.zbp[k]?.getD 0).toNat=0 by omega];rfl
theorem zwo (r:Receiver) (s:zdw) (hf:xic r) :
 zan Tryz.prog 184 [.ptr 1000 0,s.hv] (lk .free (tkH r)) (.tup []) (lk .free (tkD (zhw r s))):=by
 obtain ⟨f1,f2,f3,f4,f5⟩:=hf;generalize hT:zhw r s=T;refine zap mixed Tryz.func184 zz4 [1000,1001,1002,1003,1004] zbq ?_;(conv=>whnf);by_cases c1:s.stream<0
 . rw [zhw,zy1 (.inl c1)] at hT
   subst hT;refine zac zz39 ?_;conv=>whnf
   refine sD ?_;exact yy119
 refine zab zz39 (zw ?_);refine sD ?_;by_cases c2:(r.zbp.length:Int)<=s.stream
 . rw [zhw,zy1 (.inr c2)] at hT
   subst hT;refine zac zz29 ?_;conv=>whnf
   exact yy119
 refine zab zz29 (zw ?_);cases hs3:s.ordered with
 | false =>
  rw [zhw,zy0 (by omega),zy1 hs3] at hT;subst hT;(conv=>whnf)
  try refine sG ?_
  (refine zae [] [(1000,1000),(1001,1001),(1002,1002),(1003,1003),(1004,1004)] [(0,910),(1,911),(2,912),(3,913)] ?_;(conv=>whnf);refine dG (zwg r s.stream s.mid false zz0) ?_)
  exact yy92
 | true =>
 rw [zhw,zy0 (by omega),zy0 (by rw [hs3];decide)] at hT;obtain ⟨k,hk⟩:∃ k:Nat,s.stream=k:=⟨s.stream.toNat,by omega⟩
 have hkl:k<r.zbp.length:=by omega
 have hg:r.zbp[k]?.getD 0=r.zbp[k]:=by simp [hkl]
 have b1:=f4 _ (zy51 hkl);have b2:=f5 _ (zy51 hkl);rw [show s.stream.toNat=k by omega,hg] at hT;(conv=>whnf)
 try refine sG ?_
 refine sO ?_;refine zbz k zz0 hkl (zw ?_)
 (refine cL ?_;refine dL (zkk r.zbp[k] s.mid) ?_)
 refine sD ?_;obtain ⟨n1,n2,n3⟩:=ziv (a:=r.zbp[k]) (t:=s.mid) zz0 zz0;generalize zdd r.zbp[k] s.mid=n at hT n1 n2 n3 ⊢;refine ⟨{x:Receiver // yrv x k/\x.zbp[k]?.getD 0<=2 ^ 58/\turns (ydc x k n) k=T},fun | ⟨x,_⟩=>hsP [1000,1001,1002,1003,1004] 88 [(0,.ptr 1000 0),(3,.ptr 3 0),(4,i64 n)] ((1000,.live (.cells 225 (ybu x (.own 900) (.own 901) (.own 902) (.own 903))))::yxu x 900 901 902 903 [(3,.live (.cells 180 [i64 s.stream,i64 s.mid,zbj true])),(1001,.dead),(1002,.dead),(1003,.dead),(1004,.dead)]),fun x=>(n+1-x.1.zbp[k]?.getD 0).toNat,⟨r,⟨f1,f2,f3,hkl,by rw [hg];omega,by rw [hg];omega⟩,by rw [hg];omega,hT⟩,?_,?_⟩
 . exact (zdj (pK5 ((900,some 1001)::(901,some 1002)::(902,some 1003)::(903,some 1004)::[(3,some 3)])))
 rintro ⟨x,⟨h1,h2,h3,h4,h5,h6⟩,h7,he⟩;(conv=>whnf);refine sO ?_;refine zbz k zz0 h4 (zw ?_);refine sD ?_;have hx:x.zbp[k]?.getD 0=x.zbp[k]:=by simp [h4]
 rw [hx] at h5 h6 h7;by_cases c3:x.zbp[k]<=n
 . rw [zwx h4 (by omega)] at he
   obtain ⟨k1,k2,k3,k4,k5,k6,k7⟩:=zne x k;rw [hx] at k1;have hpas:pass x k=zxu (if (dlv x k (tag x.zbp[k]) true).2 then (dlv x k (tag x.zbp[k]) true).1 else zpf (dlv x k (tag x.zbp[k]) true).1 k (tag x.zbp[k]) true) k:=by rw [pass,hx]
   obtain ⟨d1,d2,d3,d4,d5,d6,d7⟩:=zio x k (tag x.zbp[k]) true;have hgt:(pass x k).zbp[k]?.getD 0=x.zbp[k]+1:=by rw [k1,zy41 h4];rfl
   have next:yrv (pass x k) k/\(pass x k).zbp[k]?.getD 0<=2 ^ 58/\turns (ydc (pass x k) k n) k=T:=⟨⟨by omega,by omega,by omega,by rw [k1,zy26];exact h4,by rw [hgt];omega,by rw [hgt];omega⟩,by rw [hgt];omega,he⟩
   have less:(n+1-(pass x k).zbp[k]?.getD 0).toNat<(n+1-x.zbp[k]?.getD 0).toNat:=by rw [hgt,hx];omega
   refine sT ?_;refine sO ?_;refine zbz k zz0 h4 (zw ?_)
   (refine cL ?_;refine dL (zdk _) ?_)
   refine sD ?_
   (refine zae [] [(1000,1000),(1001,900),(1002,901),(1003,902),(1004,903)] [(0,910),(1,911),(2,912),(3,913)] ?_;(conv=>whnf);refine dG (zmo x s.stream (tag x.zbp[k]) true zz0 zz0 zz0) ?_)
   rw [<- hk] at hpas d1 d2 d3 d4 d5 d6 d7;have hbm:∀ (y:Receiver) (z:Int),y.zbp=x.zbp->z=x.zbp[k]+1->zai.live (.row 3 1 ((zxu y k).zbp.map fun n=>[pi n]))=zai.live (.row 3 1 ((y.zbp.map fun n=>[pi n]).set s.stream.toNat [pi z])):=fun y z hy hz=>by
    refine zar ?_;show (y.zbp.set k (y.zbp[k]?.getD 0+1)).map _=_;rw [hy,hx,zy61,hz,show s.stream.toNat=k by omega]
   generalize dlv x s.stream (tag x.zbp[k]) true=D at *
   obtain ⟨y,ok⟩:=D;dsimp only at d1 d2 d3 d4 d5 d6 d7 hpas;have h4y:k<y.zbp.length:=by rw [d1];exact h4
   have hyk:y.zbp[k]=x.zbp[k]:=by simp only [d1]
   cases ok with
   | true =>
    have hpas:pass x k=zxu y k:=hpas;(conv=>whnf)
    try refine sG ?_
    refine sO ?_;refine zbz k zz0 h4y (zw ?_);rw [hyk];refine sF ?_;refine sO ?_;refine zbz k zz0 h4y (zw ?_);refine sD ?_;rw [hpas] at next less;refine ⟨⟨_,next⟩,(zcb (pK5 ((3,some 3)::[(900,some 910),(901,some 911),(902,some 912),(903,some 913)])) (by repeat' (first | exact z0 | refine z1 ?_ | refine ⟨?_,?_⟩ | ((exact hbm y (x.zbp[k]+1) d1 rfl)) | ((exact (hbm y (x.zbp[k]+1) d1 rfl).symm)) | exact z2))),less⟩
   | false =>
    have hpas:pass x k=zxu (zpf y s.stream (tag x.zbp[k]) true) k:=by rw [hpas,hk];rfl
    conv=>whnf
    try refine sG ?_
    (refine zae [] [(1000,1000),(1001,910),(1002,911),(1003,912),(1004,913)] [(0,920),(1,921),(2,922),(3,923)] ?_;(conv=>whnf);refine dG (zwg y s.stream (tag x.zbp[k]) true zz0) ?_)
    have e1:(zpf y s.stream (tag x.zbp[k]) true).zbp=x.zbp:=d1;generalize zpf y s.stream (tag x.zbp[k]) true=w at hpas e1 ⊢;have h4w:k<w.zbp.length:=by rw [e1];exact h4
    have hwk:w.zbp[k]=x.zbp[k]:=by simp only [e1]
    refine sO ?_;refine zbz k zz0 h4w (zw ?_);rw [hwk];refine sF ?_;refine sO ?_;refine zbz k zz0 h4w (zw ?_);refine sD ?_;rw [hpas] at next less;refine ⟨⟨_,next⟩,(zcb (pK5 ((3,some 3)::[(900,some 920),(901,some 921),(902,some 922),(903,some 923)])) (by repeat' (first | exact z0 | refine z1 ?_ | refine ⟨?_,?_⟩ | ((exact hbm w (x.zbp[k]+1) e1 rfl)) | ((exact (hbm w (x.zbp[k]+1) e1 rfl).symm)) | exact z2))),less⟩
 . rw [ydd (by omega)] at he
   subst he;refine sN ?_
   (refine zae [] [(1000,1000),(1001,900),(1002,901),(1003,902),(1004,903)] [(0,910),(1,911),(2,912),(3,913)] ?_;(conv=>whnf);refine dG (zwp x k _ hk ⟨h1,h2,h3,h4,by omega,by omega⟩) ?_ ⟨rfl,rfl,rfl,⟨zz1,⟨zz1,⟨zz1,⟨zz1,⟨zz1,trivial⟩⟩⟩⟩⟩,⟨⟨rfl,rfl⟩,⟨⟨rfl,rfl⟩,⟨⟨rfl,rfl⟩,⟨⟨rfl,rfl⟩,trivial⟩⟩⟩⟩,rfl,rfl,rfl⟩)
   exact yy92
end Rcv
namespace Rcv
open Srt Jn Ser
theorem yfk {n:Nat}:∀ {S:List zav} {i:Nat} {b:List UInt8},zmh n i S=some b->b.length=tot S
 | [],_,_,h=>by rw [zmh] at h;cases h;rfl
 | p::r,i,b,h=>by
  rw [zmh] at h;split at h
  . obtain ⟨d,hd,rfl⟩:=zy29.1 h
    rw [zy8,zff,yfk hd]
  . cases h
theorem yzc {l:List zav} {b:List UInt8} (h:join l=some b):b.length=tot l:=by
 unfold join at h;split at h
 . cases h
 . rw [yfk h,yop zql]
def yru (l:List zax):Nat:=(l.map fun a=>a.data.length).sum
theorem ynh (a b:List zax):yru (a++b)=yru a+yru b:=by simp [yru]
theorem yzh {l:List zax} {a:zax} (h:a∈l):a.data.length<=yru l:=by
 obtain ⟨x,y,rfl⟩:=List.append_of_mem h;rw [ynh];simp [yru];omega
structure ztm (r r':Receiver) (d:Nat):Prop where
 len:r'.zbp.length=r.zbp.length
 cum:r'.cum=r.cum
 zas:r'.zas=r.zas
 config:r'.config=r.config
 pieces:r'.pieces.length<=r.pieces.length
 bytes:tot r'.pieces<=tot r.pieces
 log:r'.log.length+r'.pieces.length<=r.log.length+r.pieces.length
 mass:yru r'.log+tot r'.pieces<=yru r.log+tot r.pieces
 pre:r.log <+: r'.log
 lo:∀ L:Int,(∀ t∈r.zbp,L<t)->∀ t∈r'.zbp,L<t
 hi:∀ T:Int,(∀ t∈r.zbp,t+r.pieces.length<=T)->∀ t∈r'.zbp,t+r'.pieces.length<=T+d
theorem ztm.refl (r:Receiver):ztm r r 0:=⟨rfl,rfl,rfl,rfl,zy23 _,zy23 _,zy23 _,zy23 _,zy150 _,fun _ h=>h,fun T h t ht=>by have:=h t ht;omega⟩
theorem ztm.trans {a b c:Receiver} {d e:Nat} (h:ztm a b d) (k:ztm b c e):ztm a c (d+e):=by
 obtain ⟨a1,a2,a3,a4,a5,a6,a7,a8,a9,a10,a11⟩:=h;obtain ⟨b1,b2,b3,b4,b5,b6,b7,b8,b9,b10,b11⟩:=k;exact ⟨b1.trans a1,b2.trans a2,b3.trans a3,b4.trans a4,by omega,by omega,by omega,by omega,a9.trans b9,fun L h=>b10 L (a10 L h),fun T h t ht=>by have:=b11 (T+d) (a11 T h) t ht;omega⟩
theorem ztm.more {a b:Receiver} {d e:Nat} (h:ztm a b d) (k:d<=e):ztm a b e:={h with hi:=fun T ht t hm=>by have:=h.hi T ht t hm;omega}
theorem xaf {l:List zav} (f:zav->Bool):(l.filter fun p=>!f p).length+(l.filter f).length=l.length:=by
 induction l with
 | nil=>rfl
 | cons p l ih =>
  rw [zy49,zy49];cases f p<;>simp<;>omega
theorem ynw {l:List zav} (f:zav->Bool):tot (l.filter fun p=>!f p)+tot (l.filter f)=tot l:=by
 induction l with
 | nil=>rfl
 | cons p l ih =>
  rw [zy49,zy49];cases f p<;>simp [zff]<;>omega
theorem ydy (r:Receiver) (s m:Int) (o:Bool):ztm r (zpf r s m o) 0:=by
 have h1:=xaf (l:=r.pieces) (zgl s m o);have h2:=ynw (l:=r.pieces) (zgl s m o);refine ⟨rfl,rfl,rfl,rfl,?_,?_,?_,?_,zy150 _,fun _ h=>h,fun T h t ht=>?_⟩
 . show (r.pieces.filter fun p=>!zgl s m o p).length<=_;omega
 . show tot (r.pieces.filter fun p=>!zgl s m o p)<=_;omega
 . show _+(r.pieces.filter fun p=>!zgl s m o p).length<=_;show r.log.length+_<=_;omega
 . show _+tot (r.pieces.filter fun p=>!zgl s m o p)<=_;show yru r.log+_<=_;omega
 . have:=h t ht
   show t+((r.pieces.filter fun p=>!zgl s m o p).length:Int)<=_;omega
theorem yal (r:Receiver) (s m:Int) (o:Bool):ztm r (dlv r s m o).1 0:=by
 obtain ⟨a1,a2,a3,a4,a5,a6,a7⟩:=zio r s m o;refine ⟨by rw [a1],a2,a3,a4,a5,a6,a7,?_,?_,fun L h=>by rw [a1];exact h,fun T h t ht=>by rw [a1] at ht;have:=h t ht;omega⟩
 . unfold dlv
   split
   . exact zy23 _
   . rename_i b hj
     have h1:=yzc hj;have h2:=ynw (l:=r.pieces) (zgl s m o);show yru (r.log++[_])+tot (r.pieces.filter fun p=>!zgl s m o p)<=_;rw [ynh];simp only [yru,zy35,zy114,zy137,List.sum_nil] at *
     omega
 . unfold dlv
   split
   . exact zy150 _
   . exact List.prefix_append _ _
theorem ykl {l:List Int} {k:Nat} {t:Int} (h:t∈l.set k (l[k]?.getD 0+1)):t∈l\/(t-1∈l):=by
 by_cases hk:k<l.length
 . rcases zy66 h with h | h
   . exact .inl h
   . right
     rw [h,zy3 hk];simp only [zy116];rw [show l[k]+1-1=l[k] by omega];exact zy51 hk
 . rw [zy115 (by omega)] at h
   exact .inl h
theorem zus (r:Receiver) (k:Nat):ztm r (zxu r k) 1:=by
 refine ⟨by show (r.zbp.set k _).length=_;rw [zy26],rfl,rfl,rfl,zy23 _,zy23 _,zy23 _,zy23 _,zy150 _,fun L h t ht=>?_,fun T h t ht=>?_⟩
 . rcases ykl ht with h1 | h1
   . exact h t h1
   . have:=h _ h1;omega
 . show t+(r.pieces.length:Int)<=_
   rcases ykl ht with h1 | h1
   . have:=h t h1;omega
   . have:=h _ h1;omega
theorem ype {r x:Receiver} (k:Nat) (h:ztm r x 0) (hl:x.pieces.length<r.pieces.length) (ht:x.zbp=r.zbp):ztm r (zxu x k) 0:=by
 have h1:=h.trans (zus x k);refine {h1 with hi:=fun T hT t htm=>?_};show t+(x.pieces.length:Int)<=_;rcases ykl htm with h2 | h2
 . rw [ht] at h2;have:=hT t h2;omega
 . rw [ht] at h2;have:=hT _ h2;omega
theorem zsd:∀ (n:Nat) (r:Receiver) (k:Nat),r.pieces.length<n->ztm r (turns r k) 0
 | 0,r,k,h=>by omega
 | n+1,r,k,h=>by
  rw [zse];have h1:=yal r k (tag (r.zbp[k]?.getD 0)) true;split
  . rename_i hd
    have h2:=zmy hd;have h3:=ype k h1 h2 (zio r k (tag (r.zbp[k]?.getD 0)) true).1;exact h3.trans (zsd n _ k (by show (dlv r k (tag (r.zbp[k]?.getD 0)) true).1.pieces.length<n;omega))
  . exact h1
theorem yvn (r:Receiver) (k:Nat):ztm r (pass r k) 1:=by
 have h1:=yal r k (tag (r.zbp[k]?.getD 0)) true;unfold pass;split
 . exact h1.trans (zus _ _)
 . exact (h1.trans (ydy _ _ _ _)).trans (zus _ _)
theorem zvs:∀ (n:Nat) (r:Receiver) (k:Nat),ztm r (zyw n r k) n
 | 0,r,_=>ztm.refl r
 | n+1,r,k=>((yvn r k).trans (zvs n _ k)).more zz0
theorem yhd (r:Receiver) (s:zdw) (h:∀ t∈r.zbp,-(2 ^ 60)<t/\t<2 ^ 60):ztm r (zhw r s) 32769:=by
 unfold zhw;split
 . exact (ztm.refl r).more zz0
 split
 . exact (ydy _ _ _ _).more zz0
 rename_i c _;have hk:s.stream.toNat<r.zbp.length:=by omega
 have hb:=h _ (zy51 hk);have hg:r.zbp[s.stream.toNat]?.getD 0=r.zbp[s.stream.toNat]:=by simp [hk]
 obtain ⟨n1,n2,n3⟩:=ziv (a:=r.zbp[s.stream.toNat]) (t:=s.mid) zz0 zz0;have h1:=zvs (zdd r.zbp[s.stream.toNat] s.mid+1-r.zbp[s.stream.toNat]).toNat r s.stream.toNat;refine (ztm.trans (b:=ydc r s.stream.toNat (zdd (r.zbp[s.stream.toNat]?.getD 0) s.mid)) (d:=32769) (e:=0) ?_ (zsd _ _ _ (zy151 _)));unfold ydc;rw [hg];exact h1.more zz0
theorem yej:∀ (l:List zdw) (r:Receiver) (L T:Int),-(2 ^ 59)<=L->T+l.length*32769<2 ^ 59->(∀ t∈r.zbp,L<t)->(∀ t∈r.zbp,t+r.pieces.length<=T)->ztm r (l.foldl zhw r) (l.length*32769)
 | [],r,_,_,_,_,_,_=>(ztm.refl r).more zz0
 | s::l,r,L,T,h1,h2,h3,h4=>by
  rw [zy6] at h2;have g:=yhd r s fun t ht=>by have:=h3 t ht;have:=h4 t ht;omega
  have g2:=yej l (zhw r s) L (T+32769) h1 zz0 (g.lo L h3) (g.hi T h4);rw [zy52,zy6];exact (g.trans g2).more zz0
def forward (r:Receiver) (c:Chunk):Receiver :=
 if ¬ c.kind=3\/zdd r.cum c.tag<=r.cum then r else c.zbr.foldl zhw {r with cum:=(up r.zas (zdd r.cum c.tag)).1,zas:=(up r.zas (zdd r.cum c.tag)).2}
structure zll (N:Nat) (r:Receiver):Prop where
 log:r.log.length+r.pieces.length<=N
 mass:yru r.log+tot r.pieces<=N
 many:r.zas.length<=N
 zjt:zjt r.zas
 zfo:∀ s∈r.zas,r.cum+1<s.lo
 his:∀ s∈r.zas,s.hi<=r.cum+32768
 cum1:-1<=r.cum
 cum2:r.cum<=100000+32768*N
 lo:∀ t∈r.zbp,-1<t
 hi:∀ t∈r.zbp,t+r.pieces.length<=32769*N
 streams:r.zbp.length<2 ^ 30
theorem zll.more {N M:Nat} {r:Receiver} (h:zll N r) (k:N<=M):zll M r :=
 ⟨by have:=h.log;omega,by have:=h.mass;omega,by have:=h.many;omega,h.zjt,h.zfo,h.his,h.cum1,by have:=h.cum2;omega,h.lo,fun t ht=>by have:=h.hi t ht;omega,h.streams⟩
theorem zll.fit {N:Nat} {r:Receiver} (h:zll N r) (hN:N<=2000000):Fit r:=by
 obtain ⟨h1,h2,h3,h4,h5,h6,h7,h8,h9,h10,h11⟩:=h;exact ⟨by omega,by omega,by omega,by omega,by omega,fun a ha=>by have:=yzh ha;omega⟩
theorem zll.dfit {N:Nat} {r:Receiver} (h:zll N r) (hN:N<=2000000) {c:Chunk} (hc:c.data.length<=2 ^ 20):xhk r c:=by
 have hf:=h.fit hN;obtain ⟨h1,h2,h3,h4,h5,h6,h7,h8,h9,h10,h11⟩:=h;exact ⟨hf,h4,fun s hs=>by have:=h6 s hs;omega,by omega,by omega,fun t ht=>by have:=h9 t ht;have:=h10 t ht;omega,by omega,by omega,by omega⟩
theorem ycz:∀ {l:List Span} {n:Int} (_:Ser.zjt l),n<=(up l n).1/\(up l n).2.length<=l.length/\Ser.zjt (up l n).2/\(∀ s∈(up l n).2,s∈l)/\(∀ s∈(up l n).2,(up l n).1+1<s.lo)/\((up l n).1=n\/∃ s∈l,(up l n).1=s.hi)
 | [],n,_=>by simp [up,Ser.zjt]
 | s::r,n,h=>by
  rw [up];split
  . rename_i c
    have ih:=ycz (l:=r) (n:=if s.hi>n then s.hi else n) h.2.2.2.2;have h1:n<=(if s.hi>n then s.hi else n):=by split<;>omega
    have h2:(if s.hi>n then s.hi else n)=n\/(if s.hi>n then s.hi else n)=s.hi:=by split<;>simp
    generalize (if s.hi>n then s.hi else n)=n' at *
    obtain ⟨i1,i2,i3,i4,i5,i6⟩:=ih;refine ⟨by omega,by simp;omega,i3,fun t ht=>by simp [i4 t ht],i5,?_⟩;rcases i6 with i6 | ⟨t,ht,e⟩
    . rcases h2 with h2 | h2
      . exact .inl (i6.trans h2)
      . exact .inr ⟨s,by simp,i6.trans h2⟩
    . exact .inr ⟨t,by simp [ht],e⟩
  . rename_i c
    refine ⟨zy75 _,zy23 _,h,fun t ht=>ht,fun t ht=>?_,.inl rfl⟩;have h0:=h.1;rcases zy13.1 ht with rfl | ht
    . omega
    . have:=h.2.2.2.1 t ht;omega
theorem zll.goes {N d e:Nat} {r r':Receiver} (h:zll N r) (g:ztm r r' d) (hd:d<=32769*e):zll (N+e) r':=by
 obtain ⟨h1,h2,h3,h4,h5,h6,h7,h8,h9,h10,h11⟩:=h;obtain ⟨a1,a2,a3,a4,a5,a6,a7,a8,a9,a10,a11⟩:=g;exact ⟨by omega,by omega,by rw [a3];omega,by rw [a3];exact h4,by rw [a2,a3];exact h5,fun s hs=>by rw [a3] at hs;have:=h6 s hs;omega,by omega,by omega,a10 _ h9,fun t ht=>by have:=a11 _ h10 t ht;omega,by omega⟩
theorem zll.put {N:Nat} {r:Receiver} (h:zll N r) (hN:N<=2 ^ 21) {c:Chunk} (ht:zuh r c (zdd r.cum c.tag)):zll (N+(c.data.length+1)) (put r c):=by
 obtain ⟨h1,h2,h3,h4,h5,h6,h7,h8,h9,h10,h11⟩:=h;obtain ⟨n1,n2,n3⟩:=ziv (a:=r.cum) (t:=c.tag) zz0 zz0;have ha:=ht.zfo;unfold Rcv.put;generalize zdd r.cum c.tag=n at *
 have hadd:=yry (n:=n) (M:=r.cum+32768) h4 zz0 zz0 (fun s hs=>by have:=h6 s hs;omega) zz0;have hal:=zzz r.zas n;obtain ⟨u1,u2,u3,u4,u5,u6⟩:=ycz (n:=r.cum) (yaa h4 (n:=n) zz0 zz0).1;refine ⟨?_,?_,?_,u3,u5,fun s hs=>?_,?_,?_,h9,?_,h11⟩
 . simp only [zy8,zy62];omega
 . dsimp only
   rw [zmr,zff];have:tot []=0:=rfl;dsimp only;omega
 . dsimp only;omega
 . have:=hadd s (u4 s hs);dsimp only;omega
 . dsimp only;omega
 . dsimp only
   rcases u6 with u6 | ⟨s,hs,u6⟩
   . omega
   . have:=hadd s hs;omega
 . intro t htt
   have:=h10 t htt;simp only [zy8,zy62];omega
theorem yyc {N:Nat} {r:Receiver} (h:zll N r) (hN:N<=2 ^ 21) (c:Chunk):zll (N+(c.data.length+1)) (data r c):=by
 unfold data;split
 . rename_i ht
   have hp:=h.put hN ht;split
   . exact hp.goes (e:=0) (zsd _ _ _ (zy151 _)) (zy107 _)
   . exact hp.goes (e:=0) (yal _ _ _ _) (zy107 _)
 . exact h.more zz0
theorem yjf {N:Nat} {r:Receiver} (h:zll N r) (hN:N<=2 ^ 21) (c:Chunk) (hc:c.zbr.length<=2 ^ 21):zll (N+(c.zbr.length+1)) (forward r c):=by
 unfold forward;split
 . exact h.more zz0
 rename_i ht;obtain ⟨h1,h2,h3,h4,h5,h6,h7,h8,h9,h10,h11⟩:=h;obtain ⟨n1,n2,n3⟩:=ziv (a:=r.cum) (t:=c.tag) zz0 zz0;have ha:r.cum<zdd r.cum c.tag:=by
  apply Classical.byContradiction;intro hc;exact ht (.inr zz0)
 generalize zdd r.cum c.tag=n at *
 obtain ⟨u1,u2,u3,u4,u5,u6⟩:=ycz (n:=n) h4;have hw:zll (N+1) {r with cum:=(up r.zas n).1,zas:=(up r.zas n).2}:=by
  exact yy64
 have g:=yej c.zbr {r with cum:=(up r.zas n).1,zas:=(up r.zas n).2} (-1) (32769*N) zz0 zz0 h9 h10;exact (hw.goes (e:=c.zbr.length) g zz0).more zz0
end Rcv
namespace Rcv
open Srt Jn Ser
theorem zll.skip {N:Nat} {r:Receiver} (h:zll N r) (hN:N<=2 ^ 23) (s:zdw):zll (N+1) (zhw r s) :=
 h.goes (e:=1) (yhd r s fun t ht=>by have:=h.lo t ht;have:=h.hi t ht;omega) zz0
theorem zll.sfit {N:Nat} {r:Receiver} (h:zll N r) (hN:N<2 ^ 22):xic r:=by
 obtain ⟨h1,h2,h3,h4,h5,h6,h7,h8,h9,h10,h11⟩:=h;exact ⟨by omega,by omega,by omega,fun t ht=>by have:=h9 t ht;omega,fun t ht=>by have:=h10 t ht;omega⟩
def ypa (r:Receiver) (n:Int):Receiver:={r with cum:=(up r.zas n).1,zas:=(up r.zas n).2}
theorem zll.up {N:Nat} {r:Receiver} (h:zll N r) (_:N<=2 ^ 22) {n:Int} (n1:r.cum<n) (n2:n<=r.cum+32768):zll (N+1) (ypa r n):=by
 obtain ⟨h1,h2,h3,h4,h5,h6,h7,h8,h9,h10,h11⟩:=h;obtain ⟨u1,u2,u3,u4,u5,u6⟩:=ycz (n:=n) h4;unfold ypa;exact yy64
theorem yhj (r:Receiver) (c:Chunk) {N:Nat} (h:zll N r) (hN:N<=2000000) (hc:c.zbr.length<=2 ^ 20) :
 zan Tryz.prog 153 [r.hv,c.hv] zad (xgo (forward r c) 0 1 2 3) (lk .free (yxu (forward r c) 0 1 2 3 [])):=by
 have hfit:=h.fit hN;have h6:=h.his;have h7:=h.cum1;have h8:=h.cum2;obtain ⟨n1,n2,n3⟩:=ziv (a:=r.cum) (t:=c.tag) zz0 zz0;generalize hD:forward r c=D;refine zap mixed Tryz.func153 zz4 [] (fun _=>.inl rfl) ?_;(conv=>whnf)
 (refine zat [(0,910),(1,911),(2,912),(3,913)]  ?_;(conv=>whnf);refine dO (zdt r hfit) ?_)
 (refine cL ?_;refine dL (zkk r.cum c.tag) ?_)
 by_cases c1:c.kind=3
 case neg =>
  obtain rfl:r=D:=by rw [<- hD,forward,zy1 (.inl c1)]
  refine zac zz39 ?_;conv=>whnf
  exact yy112
 refine zab zz145 (zw ?_);by_cases c2:zdd r.cum c.tag<=r.cum
 . obtain rfl:r=D:=by rw [<- hD,forward,zy1 (.inr c2)]
   refine zac zz29 ?_;conv=>whnf
   exact yy112
 refine zab zz29 (zw ?_)
 try refine sG ?_
 have hw:=h.up zz0 (n:=zdd r.cum c.tag) zz0 zz0;have e:c.zbr.foldl zhw (ypa r (zdd r.cum c.tag))=D:=by rw [<- hD,forward,zy0 (by simp [c1];omega)];rfl
 (refine zat [(0,37)]  ?_;(conv=>whnf);refine dO (yxj r.zas (zdd r.cum c.tag) (fun s hs=>by have:=h6 s hs;omega) zz132 zz0 zz0) ?_)
 refine ⟨{x:Receiver×List zdw×List zdw // c.zbr=x.2.1++x.2.2/\zll (N+1+x.2.1.length) x.1/\x.2.2.foldl zhw x.1=D},fun | ⟨(x,a,b),_⟩=>hs 61 [(4,.ptr 4 0),(5,.ptr 12 0),(47,.p (.sl 3 (c.zbr.map zdw.row))),(48,i64 c.zbr.length),(49,i64 a.length)] ((4,.live (.cells 37 yie))::(12,.live (.cells 225 (ybu x (.own 900) (.own 901) (.own 902) (.own 903))))::yxu x 900 901 902 903 []),fun x=>x.1.2.2.length,⟨(ypa r (zdd r.cum c.tag),[],c.zbr),rfl,hw,e⟩,?_,?_⟩
 . exact (zbi [(4,some 4),(12,some 12),(900,some 37),(901,some 911),(902,some 912),(903,some 913)])
 rintro ⟨⟨x,a,b⟩,h1,h2,h3⟩;dsimp only at h1 h2 h3;(conv=>whnf);cases b with
 | cons s b =>
  have hz:=zbe h1;refine sT ?_;refine zaj h1 rfl (zw ?_)
  (refine zae [] [(1000,12),(1001,900),(1002,901),(1003,902),(1004,903)] [(0,910),(1,911),(2,912),(3,913)] ?_;(conv=>whnf);refine dG (zwo x s (h2.sfit zz0)) ?_)
  refine sF ?_;exact ⟨⟨(zhw x s,a++[s],b),zag h1,by have:=h2.skip zz0 s;simpa [zy97] using this,h3⟩,(zbi [(4,some 4),(12,some 12),(900,some 910),(901,some 911),(902,some 912),(903,some 913)]),by simp⟩
 | nil =>
  have hz:=zbn h1;have h3:x=D:=h3;subst h3;refine sN ?_
  (exact zci [(0,some 900),(1,some 901),(2,some 902),(3,some 903)])
theorem zzh (l:List zav) (c:Chunk) (hb:l.length<2 ^ 36):zan Tryz.prog 177 [pieces l,c.hv] zad (.tup [pieces (l.filter (zgl c.stream c.mid c.ordered)),pieces (l.filter fun p=>!zgl c.stream c.mid c.ordered p)]) zad:=by
 refine zal mixed Tryz.func177 zz4 ?_;(conv=>whnf);refine ⟨{x:List zav×List zav // l=x.1++x.2},fun | ⟨(a,b),_⟩=>hs 49 [(3,.ptr 3 0),(6,.own 900),(7,.own 901),(10,pieces l),(11,i64 l.length),(12,i64 a.length)] [(3,.live (.cells 61 c.cells)),(900,xca (a.filter (zgl c.stream c.mid c.ordered))),(901,xca (a.filter fun p=>!zgl c.stream c.mid c.ordered p))],fun x=>x.1.2.length,⟨([],l),rfl⟩,?_,?_⟩
 . exact (zbi [(3,some 3),(900,none),(901,none)])
 rintro ⟨⟨a,b⟩,h⟩;dsimp only at h;have hfa:=zy30 (zgl c.stream c.mid c.ordered) a;have hfb:=zy30 (fun p=>!zgl c.stream c.mid c.ordered p) a;(conv=>whnf);cases b with
 | cons p b =>
  have hz:=zbe h;refine sT ?_;refine zaj h rfl (zw ?_);have e1:(a++[p]).filter (zgl c.stream c.mid c.ordered)=a.filter (zgl c.stream c.mid c.ordered)++if zgl c.stream c.mid c.ordered p then [p] else []:=by
   rw [zy42,zy49];rfl
  have e2:(a++[p]).filter (fun p=>!zgl c.stream c.mid c.ordered p)=a.filter (fun p=>!zgl c.stream c.mid c.ordered p)++if zgl c.stream c.mid c.ordered p then [] else [p]:=by
   rw [zy42,zy49];cases zgl c.stream c.mid c.ordered p<;>rfl
  by_cases c1:p.chunk.stream=c.stream
  case neg =>
   have hm:zgl c.stream c.mid c.ordered p=false:=by simp [zgl,c1]
   rw [hm] at e1 e2;refine zab zz39 (zw ?_);exact yy31
  refine zac zz39 ?_;conv=>whnf
  by_cases c2:p.chunk.mid=c.mid
  case neg =>
   have hm:zgl c.stream c.mid c.ordered p=false:=by simp [zgl,c2]
   rw [hm] at e1 e2;refine zab zz29 (zw ?_);exact yy31
  refine zac zz29 ?_;conv=>whnf
  by_cases c3:p.chunk.ordered=c.ordered
  case neg =>
   have hm:zgl c.stream c.mid c.ordered p=false:=by simp [zgl,c3]
   rw [hm] at e1 e2;refine zab zz87 (zw ?_);exact yy31
  have hm:zgl c.stream c.mid c.ordered p=true:=by simp [zgl,c1,c2,c3]
  rw [hm] at e1 e2;refine zac zz87 (zw ?_)
  try refine sG ?_
  refine zaa (c:=(((a.filter (zgl c.stream c.mid c.ordered)).map zav.row).length+1)*136<=140737488355328) zz3 (zw ?_)
  try refine sG ?_
  refine sF ?_;exact ⟨⟨(a++[p],b),zag h⟩,(zaz [(3,some 3),(900,some 41),(901,some 901)] (by repeat' (first | exact z0 | refine z1 ?_ | refine ⟨?_,?_⟩ | ((exact zbc (f:=zav.row) e1 rfl)) | ((exact zar (by rw [e2];simp))) | exact z2))),by simp⟩
 | nil =>
  have hz:=zbn h;rw [zy4] at h;refine sN ?_;rw [h]
  try rfl
end Rcv
namespace Rcv
open Srt Jn Ser
abbrev ygs (l:List Int):HV:=.p (.sl 1 (l.map fun n=>[pi n]))
abbrev zqt (l:List zax):HV:=.p (.sl 4 (l.map zax.row))
def ykj (r:Receiver) (s m:Int) (o any:Bool):Receiver×Bool :=
 (if (dlv r s m o).2 then (dlv r s m o).1 else if any then zpf r s m o else r,(dlv r s m o).2)
theorem zyy (r:Receiver) (s m:Int) (o:Bool):ykj r s m o false=dlv r s m o:=by
 unfold ykj dlv;split<;>rfl
theorem zle (r:Receiver) (c:Chunk) (any:Bool) (h2:r.pieces.length<2 ^ 22) (h3:tot r.pieces<2 ^ 22) (h4:r.log.length<2 ^ 38) :
 zan Tryz.prog 176 [r.hv,c.hv,zbj any] zad (.tup [(ykj r c.stream c.mid c.ordered any).1.hv,zbj (ykj r c.stream c.mid c.ordered any).2]) zad:=by
 refine zal mixed Tryz.func176 zz4 ?_;have hf:=zy30 (zgl c.stream c.mid c.ordered) r.pieces;have ht:=zkr (zgl c.stream c.mid c.ordered) r.pieces;(conv=>whnf)
 (refine cP ?_;refine dL (zzh r.pieces c zz0) ?_)
 have ps:=yqy (r.pieces.filter (zgl c.stream c.mid c.ordered)) zz0 zz0;cases hj:join (r.pieces.filter (zgl c.stream c.mid c.ordered)) with
 | none =>
  rw [hj] at ps;have hd:dlv r c.stream c.mid c.ordered=(r,false):=by rw [dlv,hj]
  (refine zat [(0,910)]  ?_;(conv=>whnf);refine dO ps ?_)
  cases any with
  | false =>
   conv=>whnf
   try refine sG ?_
   rw [ykj,hd];rfl
  | true =>
   conv=>whnf
   try refine sG ?_
   rw [ykj,hd];rfl
 | some b =>
  rw [hj] at ps;have hd:dlv r c.stream c.mid c.ordered=({zpf r c.stream c.mid c.ordered with log:=r.log++[⟨c.stream,c.mid,c.ordered,b⟩]},true):=by rw [dlv,hj]
  (refine zat [(0,910)]  ?_;(conv=>whnf);refine dO ps ?_)
  refine zaa (c:=(([]:List (List PV)).length+(r.log.map zax.row).length)*48<=140737488355328) zz3 (zw ?_)
  try refine sG ?_
  refine zaa (c:=(([]++r.log.map zax.row).length+1)*48<=140737488355328) zz3 (zw ?_);refine sD ?_;rw [ykj,hd];have hl:r.log.map zax.row++[zax.row ⟨c.stream,c.mid,c.ordered,b⟩]=(r.log++[(⟨c.stream,c.mid,c.ordered,b⟩:zax)]).map zax.row:=by simp
  exact congrArg (fun l=>HV.tup [.agg (ybu r (zas r.zas) (pieces (r.pieces.filter fun p=>!zgl c.stream c.mid c.ordered p)) (ygs r.zbp) (.p (.sl 4 l))),zbj true]) hl
theorem xbh {r:Receiver} {s m:Int} {o:Bool} (h:(dlv r s m o).2=false):(dlv r s m o).1=r:=by
 unfold dlv at h ⊢;split
 . rfl
 . rename_i b hj;rw [hj] at h;cases h
theorem ywz (r:Receiver) (s m:Int) (h2:r.pieces.length<2 ^ 22) (h3:tot r.pieces<2 ^ 22) (h4:r.log.length<2 ^ 38) :
 zan Tryz.prog 176 [r.hv,(Chunk.mk 0 0 s m 0 false true [] [] 0 []).hv,zbj false] zad (.tup [(dlv r s m true).1.hv,zbj (dlv r s m true).2]) zad:=by
 have h:=zle r (Chunk.mk 0 0 s m 0 false true [] [] 0 []) false h2 h3 h4
 rwa [zyy] at h
theorem ylc (r:Receiver) (k:Nat) (hf:yrv r k) (ht9:r.zbp.length<2 ^ 30):zan Tryz.prog 175 [r.hv,i64 k] zad (turns r k).hv zad:=by
 generalize hT:turns r k=T;refine zal mixed Tryz.func175 zz4 ?_;(conv=>whnf);refine ⟨{x:Bool×Receiver // yrv x.2 k/\turns x.2 k=T/\x.2.zbp.length<2 ^ 30},fun
  | ⟨(false,x),_⟩=>hs 36 [(1,i64 k),(2,.ptr 2 0),(4,.ptr 4 0)] [(2,.live (.cells 37 (ybu x (zas x.zas) (pieces x.pieces) (ygs x.zbp) (zqt x.log)))),(4,.live (.cells 37 yie))]
  | ⟨(true,x),_⟩=>hs 36 [(1,i64 k),(2,.ptr 2 0),(4,.ptr 4 0)] [(2,.live (.cells 37 (ybu x (zas x.zas) (pieces x.pieces) (.own 900) (zqt x.log)))),(4,.live (.cells 37 yie)),(900,zxc x.zbp)],fun x=>x.1.2.pieces.length,⟨(false,r),hf,hT,ht9⟩,?_,?_⟩
 . exact (zbi [(2,some 2),(4,some 4)])
 rintro ⟨⟨b,x⟩,⟨h1,h2,h3,h4,h5,h6⟩,he,h9⟩;dsimp only at h1 h2 h3 h4 h5 h6 he h9;have hg:x.zbp[k]?.getD 0=x.zbp[k]:=by simp [h4]
 have hstep:=zse x k;rw [he,hg] at hstep;rw [hg] at h5 h6;obtain ⟨k1,k2,k3,k4,k5,k6,k7⟩:=zio x k (tag x.zbp[k]) true;have hless:(dlv x k (tag x.zbp[k]) true).2=true->(dlv x k (tag x.zbp[k]) true).1.pieces.length<x.pieces.length:=fun h=>zmy h
 have hno:(dlv x k (tag x.zbp[k]) true).2=false->(dlv x k (tag x.zbp[k]) true).1=x:=fun h=>xbh h
 have ps:=ywz x k (tag x.zbp[k]) zz0 zz0 zz0;generalize hD:dlv x k (tag x.zbp[k]) true=D at *
 obtain ⟨y,ok⟩:=D;dsimp only at k1 k2 k3 k4 k5 k6 k7 hless hstep hno ps;have h4':k<y.zbp.length:=by rw [k1];exact h4
 have hyk:y.zbp[k]=x.zbp[k]:=by simp only [k1]
 cases b with
 | false =>
  exact yy14
 | true =>
  exact yy14
end Rcv
namespace Rcv
open Srt Jn Ser
theorem yhx (l:List Span) (n:Int) (hr:zjt l) (hl:∀ s∈l,s.hi<=1099511627776) (hb:l.length<2 ^ 39) (h1:-1099511627776<=n) (h2:n<=1099511627776) :
 zan Tryz.prog 173 [zas l,i64 n] zad (.tup [i64 (up l n).1,zas (up l n).2]) zad:=by
 refine zcn Tryz.func173 (xar l n hr hl hb h1 h2) ?_;(conv=>whnf)
theorem yqu (l:List Span) (n:Int) (hn:has l n=false) (hl:zjt l) (hb:l.length<2 ^ 39) (h1:-1099511627776<=n) (h2:n<=1099511627776) :
 zan Tryz.prog 174 [zas l,i64 n] zad (zas (add l n)) zad:=by
 refine zcn Tryz.func174 (ywy l n hn hl hb h1 h2) ?_;(conv=>whnf)
theorem zhx (r:Receiver) (k:Nat) (z:Int) (hz:z=k) {rows:List (List PV)} (zig:rows=r.pieces.map zav.row) (hf:yrv r k) (ht9:r.zbp.length<2 ^ 30) :
 zan Tryz.prog 175 [.agg (ybu r (zas r.zas) (.p (.sl 12 rows)) (ygs r.zbp) (zqt r.log)),i64 z] zad (turns r k).hv zad:=by
 subst hz zig;exact ylc r k hf ht9
theorem zqj (r:Receiver) (c:Chunk) {rows:List (List PV)} (zig:rows=r.pieces.map zav.row) (h2:r.pieces.length<2 ^ 22) (h3:tot r.pieces<2 ^ 22) (h4:r.log.length<2 ^ 38) :
 zan Tryz.prog 176 [.agg (ybu r (zas r.zas) (.p (.sl 12 rows)) (ygs r.zbp) (zqt r.log)),c.hv,zbj false] zad (.tup [(dlv r c.stream c.mid c.ordered).1.hv,zbj (dlv r c.stream c.mid c.ordered).2]) zad:=by
 subst zig;have h:=zle r c false h2 h3 h4
 rwa [zyy] at h
theorem yqw (r:Receiver) (c:Chunk) {N:Nat} (h:zll N r) (hN:N<=2000000) (hc:c.data.length<=2 ^ 20):zan Tryz.prog 146 [r.hv,c.hv] zad (data r c).hv zad:=by
 obtain ⟨h1,h2,h3,h4,h5,h6,h7,h8,h9⟩:=h.dfit hN hc;obtain ⟨n1,n2,n3⟩:=ziv (a:=r.cum) (t:=c.tag) zz0 zz0;generalize hD:data r c=D;refine zal mixed Tryz.func146 zz4 ?_;(conv=>whnf)
 (refine cL ?_;refine dL (zkm r.cum c.tag zz0 zz0) ?_)
 have no:¬ zuh r c (zdd r.cum c.tag)->D=r:=fun h=>by rw [<- hD,data,zy0 h]
 by_cases c1:c.kind=1
 case neg =>
  have e:=no fun h=>c1 h.1
  subst e;refine zac zz39 ?_;conv=>whnf
  repeat refine sG ?_
  try rfl
 refine zab zz145 (zw ?_);by_cases c2:c.stream<0
 . have e:=no fun h=>by have:=h.2;omega
   subst e;refine zac zz29 ?_;conv=>whnf
   repeat refine sG ?_
   try rfl
 refine zab zz29 (zw ?_);by_cases c3:c.stream>=r.zbp.length
 . have e:=no fun h=>by have:=h.3;omega
   subst e;refine zac zz87 (zw ?_)
   repeat refine sG ?_
   try rfl
 refine zab zz87 (zw ?_);by_cases c4:zdd r.cum c.tag<=r.cum
 . have e:=no fun h=>by have:=h.4;omega
   subst e;refine zac zz117 (zw ?_)
   repeat refine sG ?_
   try rfl
 refine zab zz117 (zw ?_)
 (refine cL ?_;refine dL (ykr r.zas (zdd r.cum c.tag) (by have:=h1.zas;omega)) ?_)
 cases c5:has r.zas (zdd r.cum c.tag) with
 | true =>
  have e:=no fun h=>by have:=h.5;rw [c5] at this;cases this
  subst e;(conv=>whnf)
  repeat refine sG ?_
  try rfl
 | false =>
 conv=>whnf
 repeat refine sG ?_
 refine sF ?_;have g1:=h1.zas;have g2:=h1.log;have rest:zuh r c (zdd r.cum c.tag)->D=if c.ordered then turns (put r c) c.stream.toNat else (dlv (put r c) c.stream c.mid false).1:=fun h=>by rw [<- hD,data,zy1 h]
 have yyp:tot (put r c).pieces=tot r.pieces+c.data.length:=by show tot (r.pieces++[_])=_;rw [zmr,zff];rfl
 have hpl:(put r c).pieces.length=r.pieces.length+1:=by show (r.pieces++[_]).length=_;simp
 have hadd:=yry (n:=zdd r.cum c.tag) (M:=1099511627776) h2 zz0 zz0 (fun s hs=>by have:=h3 s hs;omega) zz0;have hal:=zzz r.zas (zdd r.cum c.tag);have har:=(yaa h2 (n:=zdd r.cum c.tag) zz0 zz0).1;by_cases c6:zdd r.cum c.tag=r.cum+1
 case' pos =>
  have ok:zuh r c (zdd r.cum c.tag):=⟨c1,by omega,by omega,by omega,c5,.inl c6⟩
  refine zab zz97 (zw ?_)
  ((refine zaw ?_ ?_;(· kernel_rfl);conv=>whnf);try refine sG ?_)
 case' neg =>
  refine zac zz106 (zw ?_)
  (refine cL ?_;refine dL (zsa r zz0 zz0) ?_)
  refine sF ?_;by_cases c7:(tot r.pieces:Int)+c.data.length>400
  case pos =>
   have e:=no fun h=>by have:=h.6;omega
   subst e;refine sD ?_;refine zac zz148 (zw ?_)
   repeat refine sG ?_
   try rfl
  have ok:zuh r c (zdd r.cum c.tag):=⟨c1,by omega,by omega,by omega,c5,.inr zz0⟩
  refine sD ?_;refine zab zz148 (zw ?_)
  repeat refine sG ?_
 all_goals (
  have rest:=rest ok;refine zaa (c:=(([]:List (List PV)).length+(r.pieces.map zav.row).length)*136<=140737488355328) zz3 (zw ?_)
  try refine sG ?_
  refine zaa (c:=(([]++r.pieces.map zav.row).length+1)*136<=140737488355328) zz3 (zw ?_);refine sD ?_
  (refine cP ?_;refine dL (yqu r.zas (zdd r.cum c.tag) c5 h2 zz0 zz0 zz0) ?_)
  (refine cP ?_;refine dL (yhx (add r.zas (zdd r.cum c.tag)) r.cum har hadd zz0 zz0 zz0) ?_)
  refine sD ?_;obtain ⟨k,hk⟩:∃ k:Nat,c.stream=k:=⟨c.stream.toNat,by omega⟩
  have hkl:k<r.zbp.length:=by omega
  have htk:(put r c).zbp[k]?.getD 0=r.zbp[k]:=by show r.zbp[k]?.getD 0=_;rw [zy3 hkl];rfl
  have htb:=h6 _ (zy51 hkl);refine zaf (fun ho=>?_) (fun ho=>?_)
  . rw [zy1 ho,show c.stream.toNat=k by omega] at rest
    subst rest;(conv=>whnf)
    ((refine zdc ?_;(conv=>whnf);refine ⟨_,zhx (put r c) k _ hk (by simp [put];rfl) ⟨by omega,by omega,by show r.log.length+_<_;omega,hkl,by rw [htk];omega,by rw [htk];omega⟩ h.streams,rfl,?_⟩;conv=>whnf);try refine sG ?_)
    try rfl
  . rw [zy0 (by rw [ho];decide)] at rest
    subst rest;(conv=>whnf)
    (refine cP ?_;refine dL (zqj (put r c) c (by simp [put];rfl) zz0 zz0 (by show r.log.length<_;omega)) ?_)
    rw [ho]
    try rfl)
end Rcv
namespace Rcv
open Srt Jn Ser
theorem ygk {r:Receiver} {k:Nat} {t:Int} (h:r.zbp[k]?.getD 0=t):pass r k=zxu (ykj r k (tag t) true true).1 k:=by
 subst h;unfold pass ykj;cases hd:(dlv r k (tag (r.zbp[k]?.getD 0)) true).2 with
 | true=>rfl
 | false=>rw [xbh hd];rfl
theorem ygq (r:Receiver) (s m:Int) (o any:Bool):(ykj r s m o any).1.zbp=r.zbp:=by
 unfold ykj;split
 . exact (zio r s m o).1
 . split<;>rfl
theorem zzl (r:Receiver) (s m z:Int) (hz:z=m) (h2:r.pieces.length<2 ^ 22) (h3:tot r.pieces<2 ^ 22) (h4:r.log.length<2 ^ 38) :
 zan Tryz.prog 176 [r.hv,(Chunk.mk 0 0 s z 0 false true [] [] 0 []).hv,zbj true] zad (.tup [(ykj r s m true true).1.hv,zbj (ykj r s m true true).2]) zad:=by
 subst hz;exact zle r (Chunk.mk 0 0 s z 0 false true [] [] 0 []) true h2 h3 h4
def xhd (k:Nat) (n:Int) (T:Receiver) (y:Bool×Receiver×Int):Prop:=yrv y.2.1 k/\y.2.1.zbp[k]?.getD 0=y.2.2/\y.2.2<=2 ^ 58/\turns (ydc y.2.1 k n) k=T/\y.2.1.zbp.length<2 ^ 30
def xiq (c:Chunk) (s:zdw) (L:Nat) (n:Int):Bool×Receiver×Int->HS
 | (false,y,m)=>hs 118 [(2,.ptr 2 0),(4,.ptr 4 0),(7,.ptr 7 0),(10,i64 n),(11,i64 m),(37,.p (.sl 3 (c.zbr.map zdw.row))),(38,i64 c.zbr.length),(39,i64 L)] [(2,.live (.cells 37 (ybu y (zas y.zas) (pieces y.pieces) (ygs y.zbp) (zqt y.log)))),(4,.live (.cells 37 yie)),(7,.live (.cells 180 [i64 s.stream,i64 s.mid,zbj s.ordered]))]
 | (true,y,m)=>hs 118 [(2,.ptr 2 0),(4,.ptr 4 0),(7,.ptr 7 0),(10,i64 n),(11,i64 m),(37,.p (.sl 3 (c.zbr.map zdw.row))),(38,i64 c.zbr.length),(39,i64 L)] [(2,.live (.cells 37 (ybu y (zas y.zas) (pieces y.pieces) (.own 900) (zqt y.log)))),(4,.live (.cells 37 yie)),(7,.live (.cells 180 [i64 s.stream,i64 s.mid,zbj s.ordered])),(900,zxc y.zbp)]
def xhq (c:Chunk) (L:Nat) (x:Receiver):HS:=hs 118 [(2,.ptr 2 0),(4,.ptr 4 0),(37,.p (.sl 3 (c.zbr.map zdw.row))),(38,i64 c.zbr.length),(39,i64 L)] [(2,.live (.cells 37 (ybu x (zas x.zas) (pieces x.pieces) (ygs x.zbp) (zqt x.log)))),(4,.live (.cells 37 yie))]
theorem ycr (r:Receiver) (c:Chunk) {N:Nat} (h:zll N r) (hN:N<=2000000) (hc:c.zbr.length<=2 ^ 20):zan Tryz.prog 147 [r.hv,c.hv] zad (forward r c).hv zad:=by
 have hfit:=h.fit hN;have h4:=h.zjt;have h6:=h.his;have h7:=h.cum1;have h8:=h.cum2;obtain ⟨n1,n2,n3⟩:=ziv (a:=r.cum) (t:=c.tag) zz0 zz0;generalize hD:forward r c=D;refine zal mixed Tryz.func147 zz4 ?_;(conv=>whnf)
 (refine cL ?_;refine dL (zkm r.cum c.tag zz0 zz0) ?_)
 by_cases c1:c.kind=3
 case neg =>
  obtain rfl:r=D:=by rw [<- hD,forward,zy1 (.inl c1)]
  refine zac zz39 ?_;conv=>whnf
  repeat refine sG ?_
  try rfl
 refine zab zz145 (zw ?_);by_cases c2:zdd r.cum c.tag<=r.cum
 . obtain rfl:r=D:=by rw [<- hD,forward,zy1 (.inr c2)]
   refine zac zz29 ?_;conv=>whnf
   repeat refine sG ?_
   try rfl
 refine zab zz29 (zw ?_)
 repeat refine sG ?_
 have hw:=h.up zz0 (n:=zdd r.cum c.tag) zz0 zz0;have e:c.zbr.foldl zhw (ypa r (zdd r.cum c.tag))=D:=by rw [<- hD,forward,zy0 (by simp [c1];omega)];rfl
 (refine cP ?_;refine dL (yhx r.zas (zdd r.cum c.tag) h4 (fun s hs=>by have:=h6 s hs;omega) zz132 zz0 zz0) ?_)
 refine ⟨{x:Receiver×List zdw×List zdw // c.zbr=x.2.1++x.2.2/\zll (N+1+x.2.1.length) x.1/\x.2.2.foldl zhw x.1=D},fun x=>xhq c x.1.2.1.length x.1.1,fun x=>x.1.2.2.length,⟨(ypa r (zdd r.cum c.tag),[],c.zbr),rfl,hw,e⟩,?_,?_⟩
 . exact (zbi [(2,some 2),(4,some 4)])
 rintro ⟨⟨x,a,b⟩,h1,h2,h3⟩;dsimp only at h1 h2 h3;refine zcd fun Q0 hQ0=>?_
 (conv=>whnf);cases b with
 | nil =>
  have hz:=zbn h1;have h3:x=D:=h3;subst h3;refine sN ?_;refine hQ0 _ _ (zw ?_)
  try rfl
 | cons s b =>
  have hz:=zbe h1;have hsf:=h2.sfit zz0;obtain ⟨f1,f2,f3,f4,f5⟩:=hsf;have next:zll (N+1+(a++[s]).length) (zhw x s):=by have:=h2.skip zz0 s;simpa [zy97] using this
  have h2h:=h2.hi;have h2l:=h2.lo;have h2s:=h2.streams;have h3:b.foldl zhw (zhw x s)=D:=h3;generalize hT:zhw x s=T at next h3;refine sT ?_;refine zaj h1 rfl (zw ?_);by_cases c3:s.stream<0
  . rw [zhw,zy1 (.inl c3)] at hT
    subst hT;refine zac zz87 (zw ?_);exact yy124
  refine zab zz87 (zw ?_);by_cases c4:(x.zbp.length:Int)<=s.stream
  . rw [zhw,zy1 (.inr c4)] at hT
    subst hT;refine zac zz117 (zw ?_);exact yy124
  refine zab zz117 (zw ?_)
  repeat refine sG ?_
  refine zaf (fun ho=>?_) (fun ho=>?_)
  . have ho:s.ordered=false:=by simpa using ho
    rw [zhw,zy0 (by omega),zy1 ho] at hT;(conv=>whnf)
    repeat refine sG ?_
    (refine cP ?_;refine dL (zzh x.pieces (Chunk.mk 0 0 s.stream s.mid 0 false false [] [] 0 []) zz0) ?_)
    subst hT;refine sF ?_;refine hQ0 _ _ (zw ?_);exact ⟨⟨(zpf x s.stream s.mid false,a++[s],b),zag h1,next,h3⟩,(zbi [(2,some 2),(4,some 4)]),by simp⟩
  have ho:s.ordered=true:=by simpa using ho
  rw [zhw,zy0 (by omega),zy0 (by rw [ho];decide)] at hT;obtain ⟨k,hk⟩:∃ k:Nat,s.stream=k:=⟨s.stream.toNat,by omega⟩
  have hkl:k<x.zbp.length:=by omega
  have hg:x.zbp[k]?.getD 0=x.zbp[k]:=by simp [hkl]
  have b1:=h2l _ (zy51 hkl);have b2:=h2h _ (zy51 hkl);have b3:=f5 _ (zy51 hkl);rw [show s.stream.toNat=k by omega,hg] at hT;(conv=>whnf)
  repeat refine sG ?_
  refine zbz k zz0 hkl (zw ?_)
  (refine cL ?_;refine dL (zkm x.zbp[k] s.mid zz0 zz0) ?_)
  refine sD ?_;obtain ⟨m1,m2,m3⟩:=ziv (a:=x.zbp[k]) (t:=s.mid) zz0 zz0;generalize zdd x.zbp[k] s.mid=n at hT m1 m2 m3 ⊢;refine zbz k zz0 hkl (zw ?_);have start:xhd k n T (false,x,x.zbp[k]):=⟨⟨f1,f2,f3,hkl,by show _<x.zbp[k]?.getD 0;rw [hg];omega,by show x.zbp[k]?.getD 0+(x.pieces.length:Int)<_;rw [hg];omega⟩,hg,by dsimp only;omega,hT,h2s⟩
  refine ⟨{y:Bool×Receiver×Int // xhd k n T y},fun y=>xiq c s a.length n y.1,fun y=>(n+1-y.1.2.2).toNat,⟨(false,x,x.zbp[k]),start⟩,?_,?_⟩
  . exact (zbi [(2,some 2),(4,some 4),(7,some 7)])
  rintro ⟨⟨bb,y,m⟩,⟨g1,g2,g3,g4,g5,g6⟩,gm,g7,he,g9⟩;dsimp only at g1 g2 g3 g4 g5 g6 gm g7 he g9;rw [gm] at g5 g6;refine zcd fun Q hQ=>?_
  cases bb with
  | false =>
   exact yy10
  | true =>
   exact yy10
end Rcv
namespace Rcv
open Srt Jn Ser
theorem ylb (r:Receiver) (h1:r.zas.length<2 ^ 40) (h2:r.pieces.length<2 ^ 40) (h3:tot r.pieces<2 ^ 60) (hc:-(2 ^ 60)<=r.cum) (hc2:r.cum<=2 ^ 60) (hsp:∀ s∈r.zas,-(2 ^ 61)<=s.lo/\s.lo<=2 ^ 61/\-(2 ^ 61)<=s.hi/\s.hi<=2 ^ 61) :
 zan Tryz.prog 148 [r.hv] zad (zli r).hv zad:=by
 by_cases c0:400-(tot r.pieces:Int)>0
 . have e:zli r=⟨2,tag r.cum,0,0,0,false,false,[],(r.zas.take 6).map (shift r.cum),400-(tot r.pieces:Int),[]⟩:=by rw [zli,zy0 (by omega)]
   rw [e];refine zal mixed Tryz.func148 zz4 ?_;(conv=>whnf)
   (refine cL ?_;refine dL (zcu r.cum) ?_)
   (refine cL ?_;refine dL (zsa r zz0 zz0) ?_)
   refine sF ?_;refine zac (by simpa using c0) (zw ?_)
   repeat refine sG ?_
   refine ⟨{x:List Span×List Span // r.zas=x.1++x.2},fun | ⟨(A,B),_⟩=>hs 46 [(1,.ptr 1 0),(2,.ptr 2 0),(3,.ptr 3 0),(19,zas r.zas),(20,i64 r.zas.length),(21,i64 A.length)] [(1,.live (.cells 37 (ybu r (zas r.zas) (pieces r.pieces) (ygs r.zbp) (zqt r.log)))),(2,.live (.cells 61 [i64 0,i64 0,i64 0,i64 0,i64 0,zbj false,zbj false,zee,zee,i64 0,zee])),(3,.live (.cells 61 [i64 2,i64 (tag r.cum),i64 0,i64 0,i64 0,zbj false,zbj false,zee,.own 900,i64 (400-(tot r.pieces:Int)),zee])),(900,xej ((A.take 6).map (shift r.cum)))],fun x=>x.1.2.length,⟨([],r.zas),rfl⟩,?_,?_⟩
   . exact (zbi [(1,some 1),(2,some 2),(3,some 3),(900,none)])
   exact yy18
 . have e:zli r=⟨2,tag r.cum,0,0,0,false,false,[],(r.zas.take 6).map (shift r.cum),0,[]⟩:=by
    rw [zli];congr 1;split<;>omega
   rw [e];refine zal mixed Tryz.func148 zz4 ?_;(conv=>whnf)
   (refine cL ?_;refine dL (zcu r.cum) ?_)
   (refine cL ?_;refine dL (zsa r zz0 zz0) ?_)
   refine sF ?_;refine zab (by simpa using c0) (zw ?_)
   repeat refine sG ?_
   refine ⟨{x:List Span×List Span // r.zas=x.1++x.2},fun | ⟨(A,B),_⟩=>hs 46 [(1,.ptr 1 0),(2,.ptr 2 0),(3,.ptr 3 0),(19,zas r.zas),(20,i64 r.zas.length),(21,i64 A.length)] [(1,.live (.cells 37 (ybu r (zas r.zas) (pieces r.pieces) (ygs r.zbp) (zqt r.log)))),(2,.live (.cells 61 [i64 0,i64 0,i64 0,i64 0,i64 0,zbj false,zbj false,zee,zee,i64 0,zee])),(3,.live (.cells 61 [i64 2,i64 (tag r.cum),i64 0,i64 0,i64 0,zbj false,zbj false,zee,.own 900,i64 (0),zee])),(900,xej ((A.take 6).map (shift r.cum)))],fun x=>x.1.2.length,⟨([],r.zas),rfl⟩,?_,?_⟩
   . exact (zbi [(1,some 1),(2,some 2),(3,some 3),(900,none)])
   exact yy18
end Rcv
namespace Rcv
open Srt Jn Ser
theorem yra (c:Config) (h1:-9223372036854775808<c.first) (h2:c.first<=9223372036854775807) (h3:c.streams<=1099511627776):zan Tryz.prog 106 [c.hv] zad (yij c).hv zad:=by
 refine zcn Tryz.func106 (zwm c h1 h2 h3) ?_;(conv=>whnf)
 rfl
def wt (c:Chunk):Nat:=c.data.length+c.zbr.length+1
def wts (l:List Chunk):Nat:=(l.map wt).sum
theorem ydf (a b:List Chunk):wts (a++b)=wts a+wts b:=by simp [wts]
theorem zlj (c:Chunk) (b:List Chunk):wts (c::b)=wt c+wts b:=by simp [wts]
end Rcv
namespace Rcv
open Srt Jn Ser
theorem zll.cumB {N:Nat} {r:Receiver} (h:zll N r) (hN:N<=2000000):-(2 ^ 60)<=r.cum/\r.cum<=2 ^ 60:=by
 have:=h.cum1;have:=h.cum2;omega
theorem zll.spansB {N:Nat} {r:Receiver} (h:zll N r) (hN:N<=2000000):∀ s∈r.zas,-(2 ^ 61)<=s.lo/\s.lo<=2 ^ 61/\-(2 ^ 61)<=s.hi/\s.hi<=2 ^ 61:=fun s hs=>by
 have h1:=h.zfo s hs;have h2:=h.his s hs;have h3:=h.cum1;have h4:=h.cum2;have h5:=(zhi h.zjt s hs).1;omega
end Rcv
namespace Rcv
open Srt Jn Ser
theorem ywt (c:Config) (h1:-9223372036854775808<c.first) (h2:c.first<=9223372036854775807) (h3:c.streams<=1099511627776):zan Tryz.prog 110 [c.hv] zad (yij c).hv zad:=by
 refine zcn Tryz.func110 (zqh c h1 h2 h3) ?_;(conv=>whnf)
 rfl
theorem yql (r:Receiver) (c:Chunk) (hf:xhk r c):zan Tryz.prog 152 [r.hv,c.hv] zad (data r c).hv zad:=by
 refine zcn Tryz.func152 (ywn r c hf) ?_;generalize data r c=d;(conv=>whnf)
 rfl
theorem ycn (r:Receiver) (c:Chunk) {N:Nat} (h:zll N r) (hN:N<=2000000) (hc:c.zbr.length<=2 ^ 20):zan Tryz.prog 153 [r.hv,c.hv] zad (forward r c).hv zad:=by
 refine zcn Tryz.func153 (yhj r c h hN hc) ?_;generalize forward r c=d;(conv=>whnf)
 rfl
theorem yri (r:Receiver) (h1:r.zas.length<2 ^ 40) (h2:r.pieces.length<2 ^ 40) (h3:tot r.pieces<2 ^ 60) (hc:-(2 ^ 60)<=r.cum) (hc2:r.cum<=2 ^ 60) (hsp:∀ s∈r.zas,-(2 ^ 61)<=s.lo/\s.lo<=2 ^ 61/\-(2 ^ 61)<=s.hi/\s.hi<=2 ^ 61) :
 zan Tryz.prog 154 [r.hv] zad (zli r).hv zad:=by
 refine zcn Tryz.func154 (yxb r h1 h2 h3 hc hc2 hsp) ?_;(conv=>whnf)
 rfl
theorem zwl (r:Receiver) (hr:Fit r):zan Tryz.prog 111 [r.hv] zad r.hv zad:=by
 refine zcn Tryz.func111 (zdt r hr) ?_;(conv=>whnf)
 rfl
def xii:Config:=⟨2,4,60,1,1,5,7⟩
def a8:Chunk:=⟨1,8,0,1,0,true,true,[98],[],0,[]⟩
def a7:Chunk:=⟨1,7,0,0,0,true,true,[97],[],0,[]⟩
def r1:Receiver:=⟨xii,6,[⟨8,8⟩],[⟨8,a8⟩],[0,0],[]⟩
def r2:Receiver:=⟨xii,8,[],[],[2,0],[⟨0,0,true,[97]⟩,⟨0,1,true,[98]⟩]⟩
end Rcv
namespace Ln
open Ser
def xaj (w:List zau) (p:zau):List zau:=if w.length<40 then w++[p] else w
def zlv (w ps:List zau):List zau:=ps.foldl xaj w
def zgj (back:Bool) (x:zem×Bool) (c:Chunk):zem×Bool :=
 if back then ({x.1 with sender:=Snd.yjo x.1.sender c},x.2) else
 if c.kind=1 then ({x.1 with receiver:=Rcv.data x.1.receiver c},true) else
 if c.kind=3 then ({x.1 with receiver:=Rcv.forward x.1.receiver c},true) else x
def told (path:Int) (l:zem):zem:=if (Pck.zda [Rcv.zli l.receiver] 120).2=0 then {l with way:=zlv l.way [⟨path,true,(Pck.zda [Rcv.zli l.receiver] 120).1⟩]} else l
def zkv (l:zem) (p:zau):zem×Bool:=(Pck.zgx p.bytes).1.foldl (zgj p.back) (l,false)
def zhf (l:zem) (p:zau):zem :=
 if (Pck.zgx p.bytes).2≠0 then l else if (zkv l p).2 then told p.path (zkv l p).1 else (zkv l p).1
def emit (l:zem):zem:={l with sender:=(Snd.zjs l.sender).1,way:=zlv l.way (Snd.zjs l.sender).2}
def doS (l:zem) (x:Step):zem×Answer :=
 if x.kind=1 then (if Snd.zep l.sender x.message=0 then (emit {l with sender:=Snd.zhv l.sender x.message},⟨0,l.sender.fates.length⟩) else (l,⟨Snd.zep l.sender x.message,0⟩)) else
 if x.kind=2\/x.kind=3\/x.kind=4 then (if x.n<0 then (l,⟨6,0⟩) else match l.way[x.n.toNat]? with
  | none=>(l,⟨6,0⟩)
  | some p=>if x.kind=4 then (emit {l with way:=zlv l.way [p]},⟨0,0⟩) else
   (emit (if x.kind=2 then zhf {l with way:=l.way.eraseIdx x.n.toNat} p else {l with way:=l.way.eraseIdx x.n.toNat}),⟨0,0⟩)) else
 if x.kind=5 then (emit {l with sender:=Snd.tick l.sender},⟨0,0⟩) else (l,⟨1,0⟩)
def zkg (c:Config):zem:=⟨Snd.ydi c,Rcv.yij c,[]⟩
def znw:zem->List Step->zem×List Answer
 | l,[]=>(l,[])
 | l,x::r=>((znw (doS l x).1 r).1,(doS l x).2::(znw (doS l x).1 r).2)
theorem yny:∀ (a:List Step) (l:zem) (b:List Step),znw l (a++b)=((znw (znw l a).1 b).1,(znw l a).2++(znw (znw l a).1 b).2)
 | [],l,b=>rfl
 | x::a,l,b=>by
  have h:=yny a (doS l x).1 b;rw [zy40,znw,h];rfl
theorem zub:∀ (a:List Step) (l:zem),(znw l a).2.length=a.length
 | [],_=>rfl
 | x::a,l=>by rw [znw,zy6,zub a];rfl
theorem yki:∀ (ps w:List zau),w.length<=40->(zlv w ps).length<=40
 | [],w,h=>h
 | p::ps,w,h=>by
  unfold zlv;rw [zy52];refine yki ps _ ?_;unfold xaj;split
  . simp;omega
  . exact h
theorem yvt:∀ (ps w:List zau),∀ p∈zlv w ps,p∈w\/p∈ps
 | [],w,p,h=>.inl h
 | q::ps,w,p,h=>by
  unfold zlv at h;rw [zy52] at h;rcases yvt ps _ p h with h | h
  . unfold xaj at h
    split at h
    . rcases zy20.1 h with h | h
      . exact .inl h
      . rw [zy25] at h;subst h;exact .inr zz5
    . exact .inl h
  . exact .inr (by simp [h])
theorem zyx (l:List Chunk) (most:Int) (h:0<=most):((Pck.zda l most).1.length:Int)<=most:=by
 unfold Pck.zda
 (repeat' split)<;>first | (simp;omega) | (dsimp only;omega)
theorem xcs (kind:Int) (b:List UInt8):(Chk.zcz kind b).1.data.length+(Chk.zcz kind b).1.zbr.length<=b.length/\(Chk.zcz kind b).1.zas.length<=b.length:=by
 have h1:=Chk.zmn (b.drop 2);have h2:=Chk.zlc (b.drop 4);have h3:(b.drop 2).length<=b.length:=by simp
 have h4:(b.drop 4).length<=b.length:=by simp
 unfold Chk.zcz
 (repeat' split)<;>constructor<;>first | (simp [Chk.no];done) | (dsimp only [Chk.no];simp;omega) | (dsimp only [Chk.no];omega)
theorem xae {b:List UInt8} (h:(Chk.parse b).2.2=0):Rcv.wt (Chk.parse b).1+1<=(Chk.parse b).2.1.toNat/\(Chk.parse b).2.1.toNat<=b.length/\(Chk.parse b).1.zas.length<=b.length:=by
 have h1:=xcs (b[0]?.getD 0).toNat ((b.drop 2).take (b[1]?.getD 0).toNat);have h2:((b.drop 2).take (b[1]?.getD 0).toNat).length<=(b[1]?.getD 0).toNat:=by simp;omega
 have h3:((b.drop 2).take (b[1]?.getD 0).toNat).length<=b.length:=by simp;omega
 unfold Chk.parse at h ⊢
 (repeat' split at h)<;>first | contradiction | skip
 . rename_i c1 c2 c3 c4
   rw [zy0 c1,zy0 c2,zy0 c3,zy0 c4];unfold Rcv.wt;dsimp only;refine ⟨by omega,by omega,by omega⟩
theorem ygi:∀ (f:Nat) (b:List UInt8),Rcv.wts (Pck.zfj f b).1<=b.length/\∀ c∈(Pck.zfj f b).1,c.zas.length<=b.length/\Rcv.wt c<=b.length
 | 0,b=>by simp [Pck.zfj,Rcv.wts]
 | f+1,b=>by
  have ih:=ygi f (b.drop (Chk.parse b).2.1.toNat);unfold Pck.zfj
  (repeat' split)<;>first | (simp [Rcv.wts];done) | skip
  rename_i c1 c2 c3;have hp:=xae (Decidable.not_not.1 c2);rw [zy38] at ih;refine ⟨?_,fun c hc=>?_⟩
  . dsimp only
    rw [Rcv.zlj];omega
  . rcases zy13.1 hc with rfl | hc
    . exact ⟨hp.2.2,by omega⟩
    . have:=ih.2 c hc;omega
theorem zvw (b:List UInt8):Rcv.wts (Pck.zgx b).1<=b.length/\∀ c∈(Pck.zgx b).1,c.zas.length<=b.length/\Rcv.wt c<=b.length:=by
 unfold Pck.zgx;split
 . simp [Rcv.wts]
 . exact ygi _ _
theorem yvi {most path:Int} {l:List Chunk} (h0:0<=most):∀ p∈Snd.zls most path l,(p.bytes.length:Int)<=most/\p.back=false:=by
 intro p hp;unfold Snd.zls at hp;split at hp
 . rw [zy25] at hp;subst hp;exact ⟨zyx _ _ h0,rfl⟩
 . simp at hp
theorem ygf {most path:Int} (h0:0<=most):∀ (n:Nat) (l:List Chunk),∀ p∈Snd.zfi most path n l,(p.bytes.length:Int)<=most/\p.back=false
 | 0,l,p,hp=>by simp [Snd.zfi] at hp
 | n+1,l,p,hp=>by
  unfold Snd.zfi at hp;split at hp
  . simp at hp
  . rcases zy20.1 hp with hp | hp
    . exact yvi h0 p hp
    . exact ygf h0 n _ p hp
theorem zsw {most:Int} (h0:0<=most):∀ (ls:List (List Chunk)) (k:Nat),∀ p∈Snd.zbs most k ls,(p.bytes.length:Int)<=most/\p.back=false
 | [],k,p,hp=>by simp [Snd.zbs] at hp
 | l::ls,k,p,hp=>by
  unfold Snd.zbs at hp;rcases zy20.1 hp with hp | hp
  . exact ygf h0 _ _ p hp
  . exact zsw h0 ls _ p hp
structure LI (N M:Nat) (l:zem):Prop where
 snd:Snd.SI N l.sender
 rcv:Rcv.zll M l.receiver
 small:M<=2000000
 way:l.way.length<=40
 bytes:∀ p∈l.way,p.bytes.length<=120
section
variable {N M:Nat} {l:zem}
theorem LI.more (h:LI N M l) {M':Nat} (h1:M<=M') (h2:M'<=2000000):LI N M' l:=⟨h.snd,h.rcv.more h1,h2,h.way,h.bytes⟩
theorem yay {back:Bool} {x:zem×Bool} {c:Chunk} (h:LI N M x.1) (hM:M+Rcv.wt c<=2000000):LI N (M+Rcv.wt c) (zgj back x c).1:=by
 have hw:Rcv.wt c=c.data.length+c.zbr.length+1:=rfl;unfold zgj;split
 . exact ⟨Snd.xdf h.snd c,h.rcv.more zz0,hM,h.way,h.bytes⟩
 split
 . exact ⟨h.snd,(Rcv.yyc h.rcv zz0 c).more zz0,hM,h.way,h.bytes⟩
 split
 . exact ⟨h.snd,(Rcv.yjf h.rcv zz0 c zz0).more zz0,hM,h.way,h.bytes⟩
 . exact h.more zz0 hM
theorem ymm {back:Bool}:∀ (cs:List Chunk) {M:Nat} {x:zem×Bool},LI N M x.1->M+Rcv.wts cs<=2000000->LI N (M+Rcv.wts cs) (cs.foldl (zgj back) x).1
 | [],M,x,h,_=>h
 | c::cs,M,x,h,hM=>by
  rw [Rcv.zlj] at hM ⊢;have:=ymm (back:=back) cs (yay (back:=back) (c:=c) h zz0) zz0;rw [<- zy97];exact this
theorem ygo (h:LI N M l) {ps:List zau} (hp:∀ p∈ps,p.bytes.length<=120):LI N M {l with way:=zlv l.way ps} :=
 ⟨h.snd,h.rcv,h.small,yki ps _ h.way,fun p hq=>by rcases yvt ps _ p hq with hq | hq;exact h.bytes p hq;exact hp p hq⟩
theorem xeq (h:LI N M l) (path:Int):LI N M (told path l):=by
 unfold told;split
 . refine ygo h fun p hp=>?_
   rw [zy25] at hp;subst hp;have:=zyx [Rcv.zli l.receiver] 120 zz4;dsimp only;omega
 . exact h
theorem yai (h:LI N M l) {p:zau} (hp:p.bytes.length<=120) (hM:M+120<=2000000):LI N (M+120) (zhf l p):=by
 have hw:=(zvw p.bytes).1;have h2:LI N (M+120) (zkv l p).1:=(ymm (back:=p.back) (Pck.zgx p.bytes).1 (x:=(l,false)) h zz0).more zz0 hM;unfold zhf;split
 . exact h.more zz0 hM
 split
 . exact xeq h2 _
 . exact h2
theorem yam (h:LI N M l):LI N M (emit l):=by
 have hw:=Snd.zde h.snd.cfg;have hc:=Snd.xah h.snd;have h2:LI N M {l with sender:=(Snd.zjs l.sender).1}:=⟨Snd.xed h.snd,h.rcv,h.small,h.way,h.bytes⟩
 refine ygo h2 fun p hp=>?_
 have:=(zsw zz0 _ _ p hp).1;omega
theorem xbi (h:LI N M l) (x:Step) (hN:N+1<=2 ^ 20) (hM:M+120<=2000000):LI (N+1) (M+120) (doS l x).1:=by
 have h0:LI (N+1) (M+120) l:=⟨h.snd.mono zz0 hN,h.rcv.more zz0,hM,h.way,h.bytes⟩
 unfold doS;split
 . split
   . rename_i e
     exact yam (l:={l with sender:=Snd.zhv l.sender x.message}) ⟨Snd.ybz h.snd e hN,h0.rcv,hM,h.way,h.bytes⟩
   . exact h0
 split
 . split
   . exact h0
   split
   . exact h0
   rename_i p hp;have hb:=h.bytes p (zy21 hp);have he:∀ {N M:Nat},LI N M l->LI N M {l with way:=l.way.eraseIdx x.n.toNat}:=fun h =>
    ⟨h.snd,h.rcv,h.small,by show (l.way.eraseIdx _).length<=40;have:=h.way;rw [zy81];split<;>omega,fun q hq=>h.bytes q (zy68 hq)⟩
   split
   . refine yam (ygo h0 fun q hq=>?_)
     rw [zy25] at hq;subst hq;exact hb
   . refine yam ?_
     split
     . exact yai (he ⟨h.snd.mono zz0 hN,h.rcv,h.small,h.way,h.bytes⟩) hb hM
     . exact he h0
 split
 . exact yam (l:={l with sender:=Snd.tick l.sender}) ⟨Snd.ycv h0.snd,h0.rcv,hM,h.way,h.bytes⟩
 . exact h0
end
theorem yur {c:Config} (h:Snd.zju c=0):LI 0 0 (zkg c):=by
 have hw:=Snd.zde h;have hl:(Rcv.yij c).zbp.length<=4:=by simp [Rcv.yij];omega
 have ht:∀ t∈(Rcv.yij c).zbp,t=0:=fun t ht=>(zy127.1 ht).2
 exact ⟨Snd.xge h,⟨zy23 _,zy23 _,zy23 _,trivial,by simp [zkg,Rcv.yij],by simp [zkg,Rcv.yij],by show -1<=c.first-1;omega,by show c.first-1<=_;omega,fun t htt=>by rw [ht t htt];decide,fun t htt=>by rw [ht t htt];simp [zkg,Rcv.yij],by show (Rcv.yij c).zbp.length<_;omega⟩,by decide,by simp [zkg],by simp [zkg]⟩
end Ln
namespace Ln
open Ser
abbrev zhc (l:List zau):zai:=.live (.row 110 3 (l.map zau.row))
abbrev pks (l:List zau):HV:=.p (.sl 3 (l.map zau.row))
def lnC (s:zah) (r:Receiver) (w:HV):List HV:=[i64 s.config.streams,i64 s.config.part,i64 s.config.packet,i64 s.config.paths,i64 s.config.turns,i64 s.config.waiting,i64 s.config.first,i64 s.clock,Sch.qs s.queue,i64 s.sched.last,i64 s.sched.hand,ints s.sched.had,Sco.zdy s.out,Snd.zov s.paths,i64 s.cum,i64 s.next,i64 s.room,ints s.mids,ints s.fates,zbj s.forward,i64 s.recover,
 i64 r.config.streams,i64 r.config.part,i64 r.config.packet,i64 r.config.paths,i64 r.config.turns,i64 r.config.waiting,i64 r.config.first,i64 r.cum,.p (.sl 2 (r.zas.map Span.row)),.p (.sl 12 (r.pieces.map zav.row)),ints r.zbp,.p (.sl 4 (r.log.map zax.row)),w]
abbrev lnB (s:zah) (r:Receiver) (w:HV):zai:=.live (.cells 40 (lnC s r w))
theorem yol (ps:List zau) (h1:ps.length<2 ^ 22) (h2:∀ p∈ps,p.bytes.length<2 ^ 38):zan Tryz.prog 112 [pks ps] zad (.own 0) (lk .free [(0,zhc ps)]):=by
 refine zap mixed Tryz.func112 zz4 [] (fun _=>.inl rfl) ?_;(conv=>whnf);refine ⟨{x:List zau×List zau // ps=x.1++x.2},fun | ⟨(A,B),_⟩=>hs 22 [(3,.own 900),(6,pks ps),(7,i64 ps.length),(8,i64 A.length)] [(900,zhc A)],fun x=>x.1.2.length,⟨([],ps),rfl⟩,?_,?_⟩
 . exact (zbi [(900,none)])
 rintro ⟨⟨A,B⟩,h⟩;dsimp only at h;(conv=>whnf);cases B with
 | cons p B =>
  have hz:=zbe h;have hp:=h2 p (zgf h);refine sT ?_;refine zaj h rfl (zw ?_)
  (refine zat [(0,14)]  ?_;(conv=>whnf);refine dO (Cl.zdb p.bytes zz0) ?_)
  refine zaa (c:=((A.map zau.row).length+1)*40<=140737488355328) zz3 (zw ?_);refine sF ?_;exact ⟨⟨(A++[p],B),zag h⟩,(zaz [(900,some 19)] (by repeat' (first | exact z0 | refine z1 ?_ | refine ⟨?_,?_⟩ | ((exact zbc (f:=zau.row) rfl rfl)) | exact z2))),by simp⟩
 | nil =>
  have hz:=zbn h;rw [zy4] at h;refine sN ?_;exact zao [(0,some 900)] rfl rfl trivial rfl rfl ⟨⟨rfl,.inl ⟨900,rfl,by exact zar (by rw [h])⟩⟩,trivial⟩
theorem yww (l:zem) (h1:Snd.Fit l.sender) (h2:Rcv.Fit l.receiver) (h3:l.way.length<2 ^ 22) (h4:∀ p∈l.way,p.bytes.length<2 ^ 38):zan Tryz.prog 55 [l.hv] zad (.agg (lnC l.sender l.receiver (.own 0))) (lk .free [(0,zhc l.way)]):=by
 refine zap mixed Tryz.func55 zz4 [] (fun _=>.inl rfl) ?_;(conv=>whnf)
 (refine cP ?_;refine dL (Snd.zwl l.sender h1) ?_)
 (refine cP ?_;refine dL (Rcv.zwl l.receiver h2) ?_)
 (refine zat [(0,20)]  ?_;(conv=>whnf);refine dO (yol l.way h3 h4) ?_)
 refine sD ?_;exact yy21
theorem yoa (w A:List zau) (p:zau):zlv w (A++[p])=xaj (zlv w A) p:=by simp [zlv]
theorem zld (s:zah) (r:Receiver) (w ps:List zau) (h1:ps.length<2 ^ 62):zan Tryz.prog 116 [.ptr 1000 0,pks ps] (lk .free [(1000,lnB s r (.own 1001)),(1001,zhc w)]) (.tup []) (lk .free [(1000,lnB s r (.own 0)),(0,zhc (zlv w ps)),(1001,.dead)]):=by
 refine zap mixed Tryz.func116 zz4 [1000,1001] zbq ?_;(conv=>whnf);refine ⟨{x:List zau×List zau // ps=x.1++x.2},fun | ⟨(A,B),_⟩=>hsP [1000,1001] 29 [(0,.ptr 1000 0),(6,pks ps),(7,i64 ps.length),(8,i64 A.length)] [(1000,lnB s r (.own 900)),(900,zhc (zlv w A)),(1001,.dead)],fun x=>x.1.2.length,⟨([],ps),rfl⟩,?_,?_⟩
 . exact (zdj [(1000,some 1000),(1001,some 1001),(900,some 1001)])
 rintro ⟨⟨A,B⟩,h⟩;dsimp only at h;(conv=>whnf);cases B with
 | cons p B =>
  have hz:=zbe h;refine sT ?_;refine zaj h rfl (zw ?_);by_cases c:(zlv w A).length<40
  case pos =>
   refine sT ?_;refine zaa (c:=(((zlv w A).map zau.row).length+1)*40<=140737488355328) zz3 (zw ?_);refine sD ?_;refine sF ?_;exact ⟨⟨(A++[p],B),zag h⟩,(zcb [(1000,some 1000),(1001,some 1001),(900,some 25)] (by repeat' (first | exact z0 | refine z1 ?_ | refine ⟨?_,?_⟩ | ((exact zbc (f:=zau.row) (by rw [yoa,xaj,zy1 c]) rfl)) | exact z2))),by simp⟩
  case neg =>
   refine sN ?_;refine sF ?_;exact ⟨⟨(A++[p],B),zag h⟩,(zcb [(1000,some 1000),(1001,some 1001),(900,some 900)] (by repeat' (first | exact z0 | refine z1 ?_ | refine ⟨?_,?_⟩ | ((exact zar (by rw [yoa,xaj,zy0 c]))) | exact z2))),by simp⟩
 | nil =>
  have hz:=zbn h;rw [zy4] at h;refine sN ?_
  (exact zcx [(1000,some 1000),(1001,some 1001),(0,some 900)] zz89)
end Ln
namespace Ln
open Ser
theorem yet (back:Bool) (x:zem×Bool) (c:Chunk):(zgj back x c).1.way=x.1.way:=by
 unfold zgj;(repeat' split)<;>rfl
theorem ylg:∀ cs:List Chunk,cs.length<=Rcv.wts cs
 | []=>by simp [Rcv.wts]
 | c::cs=>by
  have:=ylg cs;rw [Rcv.zlj,zy6];unfold Rcv.wt;omega
theorem zws (r:Receiver):Pck.zeu [Rcv.zli r]:=⟨by simp,fun c hc=>by
 rw [zy25] at hc;subst hc;exact ⟨by simp [Rcv.zli];omega,by simp [Rcv.zli]⟩⟩
theorem yqn {N M:Nat} (l:zem) (p:zau) (h:LI N M l) (hM:M+120<=2000000) (hp:p.bytes.length<=120):zan Tryz.prog 118 [.ptr 1000 0,p.hv] (lk .free [(1000,lnB l.sender l.receiver (.own 1001)),(1001,zhc l.way)]) (.tup [])
 (lk .free [(1000,lnB (zhf l p).sender (zhf l p).receiver (.own 0)),(0,zhc (zhf l p).way),(1001,.dead)]):=by
 obtain ⟨path,back,bytes⟩:=p;dsimp only at hp;generalize hT:zhf l ⟨path,back,bytes⟩=T;refine zap mixed Tryz.func118 zz4 [1000,1001] zbq ?_;(conv=>whnf);have hw:=zvw bytes
 (refine cP ?_;refine dL (Pck.ykt bytes zz0) ?_)
 rw [zhf] at hT;dsimp only at hT;have hall:zkv l ⟨path,back,bytes⟩=(Pck.zgx bytes).1.foldl (zgj back) (l,false):=rfl;generalize Pck.zgx bytes=K at hT hw hall ⊢;obtain ⟨cs,e⟩:=K;dsimp only at hT hw hall;by_cases c1:e=0
 case neg =>
  rw [zy1 c1] at hT;subst hT;rw [show (e != 0)=true from zy77.2 c1];(conv=>whnf)
  (exact zci [(1000,some 1000),(1001,some 1001),(0,some 1001)])
 case pos =>
 subst c1;rw [zy0 (fun h=>h rfl)] at hT;(conv=>whnf)
 repeat refine sG ?_
 refine ⟨{x:(zem×Bool)×List Chunk×List Chunk // cs=x.2.1++x.2.2/\x.2.1.foldl (zgj back) (l,false)=x.1/\LI N (M+Rcv.wts x.2.1) x.1.1/\x.1.1.way=l.way},fun | ⟨((y,told),A,B),_⟩=>hsP [1000,1001] 85 [(0,.ptr 1000 0),(3,.ptr 3 0),(6,zbj told),(19,.p (.sl 11 (cs.map Chunk.row))),(20,i64 cs.length),(21,i64 A.length)] [(1000,lnB y.sender y.receiver (.own 1001)),(1001,zhc l.way),(3,.live (.cells 110 (⟨path,back,bytes⟩:zau).cells))],fun x=>x.1.2.2.length,⟨((l,false),[],cs),rfl,rfl,h,rfl⟩,?_,?_⟩
 . exact (zdj [(1000,some 1000),(1001,some 1001),(3,some 3)])
 rintro ⟨⟨⟨y,told⟩,A,B⟩,k1,k2,k3,k4⟩;dsimp only at k1 k2 k3 k4;(conv=>whnf);cases B with
 | cons c B =>
  have hz:=zbe k1;obtain ⟨w1,w2⟩:=hw;have hcl:=ylg cs;have hc:=w2 c (zgf k1);have hsum:Rcv.wts cs=Rcv.wts A+(Rcv.wt c+Rcv.wts B):=by rw [k1,Rcv.ydf,Rcv.zlj]
  have hwt:Rcv.wt c=c.data.length+c.zbr.length+1:=rfl;have hnx:(A++[c]).foldl (zgj back) (l,false)=zgj back (y,told) c:=by rw [zy58,k2];rfl
  have hli:=yay (back:=back) (x:=(y,told)) (c:=c) k3 zz0;have hwy:=(yet back (y,told) c).trans k4;rw [show M+Rcv.wts A+Rcv.wt c=M+Rcv.wts (A++[c]) by rw [Rcv.ydf,Rcv.zlj];simp [Rcv.wts];omega] at hli;have hfit:=k3.rcv.fit zz0;refine sT ?_;refine zaj k1 rfl (zw ?_)
  repeat refine sG ?_
  cases back with
  | true =>
   conv=>whnf
   (refine cP ?_;refine dL (Snd.ywp y.sender c k3.snd.fit k3.snd.right zz0) ?_)
   refine sD ?_
   repeat refine sG ?_
   refine sF ?_;exact ⟨⟨(zgj true (y,told) c,A++[c],B),zag k1,hnx,hli,hwy⟩,(zdj [(1000,some 1000),(1001,some 1001),(3,some 3)]),by simp⟩
  | false =>
   conv=>whnf
   repeat refine sG ?_
   by_cases d1:c.kind=1
   case pos =>
    have e1:zgj false (y,told) c=({y with receiver:=Rcv.data y.receiver c},true):=by unfold zgj;rw [zy0 (by decide),zy1 d1]
    rw [e1] at hnx hli hwy;rw [show (c.kind==1)=true from zy15.2 d1];(conv=>whnf)
    (refine cP ?_;refine dL (Rcv.yql y.receiver c (k3.rcv.dfit zz0 zz0)) ?_)
    refine sD ?_
    repeat refine sG ?_
    refine sF ?_;exact ⟨⟨(({y with receiver:=Rcv.data y.receiver c},true),A++[c],B),zag k1,hnx,hli,hwy⟩,(zdj [(1000,some 1000),(1001,some 1001),(3,some 3)]),by simp⟩
   case neg =>
    rw [show (c.kind==1)=false from zy5.2 d1];(conv=>whnf)
    repeat refine sG ?_
    by_cases d2:c.kind=3
    case pos =>
     have e1:zgj false (y,told) c=({y with receiver:=Rcv.forward y.receiver c},true):=by unfold zgj;rw [zy0 (by decide),zy0 d1,zy1 d2]
     rw [e1] at hnx hli hwy;rw [show (c.kind==3)=true from zy15.2 d2];(conv=>whnf)
     (refine cP ?_;refine dL (Rcv.ycn y.receiver c k3.rcv zz0 zz0) ?_)
     refine sD ?_
     repeat refine sG ?_
     refine sF ?_;exact ⟨⟨(({y with receiver:=Rcv.forward y.receiver c},true),A++[c],B),zag k1,hnx,hli,hwy⟩,(zdj [(1000,some 1000),(1001,some 1001),(3,some 3)]),by simp⟩
    case neg =>
     have e1:zgj false (y,told) c=(y,told):=by unfold zgj;rw [zy0 (by decide),zy0 d1,zy0 d2]
     rw [e1] at hnx hli hwy;rw [show (c.kind==3)=false from zy5.2 d2];(conv=>whnf)
     repeat refine sG ?_
     refine sF ?_;exact ⟨⟨((y,told),A++[c],B),zag k1,hnx,hli,hwy⟩,(zdj [(1000,some 1000),(1001,some 1001),(3,some 3)]),by simp⟩
 | nil =>
  have hz:=zbn k1;rw [zy4] at k1;rw [<- k1] at k2 k3;rw [hall,k2] at hT;dsimp only at hT;obtain ⟨w1,w2⟩:=hw;have hfit:=k3.rcv.fit zz0;refine sN ?_;cases told with
  | false =>
   rw [zy0 (by decide)] at hT;subst hT;(conv=>whnf)
   (exact zcx [(1000,some 1000),(1001,some 1001),(0,some 1001)] zz53)
  | true =>
   rw [zy1 rfl] at hT;(conv=>whnf)
   repeat refine sG ?_
   have hcb:=k3.rcv.cumB zz0
   (refine cP ?_;refine dL (Rcv.yri y.receiver zz132 (by have:=hfit.pieces;omega) (by have:=hfit.bytes;omega) hcb.1 hcb.2 (k3.rcv.spansB zz0)) ?_)
   (refine cP ?_;refine dL (Pck.zge [Rcv.zli y.receiver] 120 (zws _)) ?_)
   unfold Ln.told at hT;generalize Pck.zda [Rcv.zli y.receiver] 120=K2 at hT ⊢;obtain ⟨b,e⟩:=K2;dsimp only at hT;by_cases c3:e=0
   case pos =>
    rw [zy1 c3] at hT;subst hT c3;(conv=>whnf)
    (refine zae [false,true] [(1000,1000),(1001,1001)] [(0,940)] ?_;(conv=>whnf);refine dG (zld y.sender y.receiver l.way [⟨path,true,b⟩] zz5) ?_)
    (exact zcx [(1000,some 1000),(1001,some 1001),(0,some 940)] zz53)
   case neg =>
    rw [zy0 c3] at hT;subst hT;rw [show (e==0)=false from zy5.2 c3];(conv=>whnf)
    (exact zcx [(1000,some 1000),(1001,some 1001),(0,some 1001)] zz53)
end Ln
namespace Snd
open Ser
theorem PF.down {j i:Nat} {s:zah} (h:PF (j+i) s):PF j s:=⟨h.g,h.some,h.part,h.part2,h.msg,h.chunk,zy143 (Nat.add_le_add_left (zy59 _ (Nat.le_add_right j i)) _) h.bytes,h.few⟩
theorem PO.down {g:Config} {j i n k:Nat} {p:zfl} (h:PO g (j+i) n k p):PO g j n k p:=⟨h.pf.down,h.paths,h.outs,h.config,h.most⟩
theorem ynm:∀ (i:Nat) {g:Config} {j n k:Nat} {p:zfl},PO g (j+i) n k p->PO g j n (k+i) (zfu i p)
 | 0,_,_,_,_,_,h=>h
 | i+1,g,j,n,k,p,h=>by
  unfold zfu;rcases ykd (j:=j+i) h with ⟨-,e⟩ | ⟨q,-,e,-,-,h2⟩
  . rw [e];exact h.down.mono zz0
  . rw [e]
    have:=ynm i h2;exact this.mono zz0
theorem ygh (most path:Int):∀ (n:Nat) (l:List Chunk),(zfi most path n l).length<=n
 | 0,l=>by simp [zfi]
 | n+1,l=>by
  have:=ygh most path n (l.drop (zca most l).toNat);have h1:(zls most path l).length<=1:=by unfold zls;split<;>simp
  unfold zfi;split
  . simp
  . rw [zy8];omega
theorem zsx (most:Int) {k:Nat}:∀ (ls:List (List Chunk)) (i:Nat),(∀ l∈ls,l.length<=k)->(zbs most i ls).length<=k*ls.length
 | [],i,_=>by simp [zbs]
 | l::ls,i,h=>by
  have h1:=ygh most i l.length l;have h2:=zsx most ls (i+1) fun x hx=>h x zz103
  have h3:=h l zz5;unfold zbs;rw [zy8,zy6,Nat.mul_add];omega
theorem zhg {N:Nat} {s:zah} (h:SI N s):(zjs s).2.length<2 ^ 62:=by
 have e1:=yab (znb (zph h.pf));have e2:=ynm (j:=1) 61 e1;have h1:=(znb (zph h.pf)).pf.few;have h2:=h.npaths;have h3:=zde h.cfg;have h4:=zsx s.config.packet (zml s).out 0 fun l hl=>(e2.most l hl).1
 have h5:(zml s).out.length=s.paths.length:=e2.outs;rw [h5] at h4;have h6:s.paths.length<=2:=by omega
 show (zbs s.config.packet 0 (zml s).out).length<_;refine zy143 h4 (zy143 (Nat.mul_le_mul_left _ h6) ?_);omega
end Snd
namespace Ln
open Ser
def noR:Receiver:=⟨⟨0,0,0,0,0,0,0⟩,0,[],[],[],[]⟩
def noL:zem:=⟨Snd.noS,noR,[]⟩
def ztj (c:Config):zem×Int:=if Snd.zju c=0 then (zkg c,0) else (noL,Snd.zju c)
theorem yhm (c:Config):zan Tryz.prog 54 [c.hv] zad (.tup [(ztj c).1.hv,i64 (ztj c).2]) zad:=by
 refine zal mixed Tryz.func54 zz4 ?_;(conv=>whnf);have pn:=Snd.zqh c;by_cases c1:Snd.zju c=0
 case neg =>
  rw [show ztj c=(noL,Snd.zju c) from zy0 c1];rw [show Snd.yii c=(Snd.noS,Snd.zju c) from zy0 c1] at pn
  (refine cP ?_;refine dL pn ?_)
  rw [show (Snd.zju c != 0)=true from zy77.2 c1];(conv=>whnf)
  try rfl
 case pos =>
  have hw:=Snd.zde c1;rw [show ztj c=(zkg c,0) from zy1 c1];rw [show Snd.yii c=(Snd.ydi c,0) from zy1 c1] at pn
  (refine cP ?_;refine dL pn ?_)
  repeat refine sG ?_
  (refine cP ?_;refine dL (Rcv.ywt c zz0 zz0 zz0) ?_)
  ((refine zaw ?_ ?_;(· kernel_rfl);conv=>whnf);try refine sG ?_)
  try rfl
theorem yye (l:List zau) (i j:Nat) (hij:i<=j) (hj:j<=l.length) (hb:l.length<2 ^ 40) :
 zan Tryz.prog 117 [.osl 1000 3 0 (l.map zau.row).length,i64 i,i64 j] (lk .free [(1000,.live (.row 110 3 (l.map zau.row)))])
  (.osl 1000 3 0 (l.length-(j-i))) (lk .free [(1000,.live (.row 110 3 ((l.take i++l.drop j).map zau.row++List.replicate (j-i) ([pi 0,pb false,.v (.slice none 0 0)]))))]):=by
 refine zap mixed Tryz.func117 zz4 [1000] zbq ?_;have hlr:(l.map zau.row).length=l.length:=by simp
 (conv=>whnf);refine sO ?_;by_cases h:i=j
 . subst h
   refine sT ?_;refine zao [(1000,some 1000)] rfl rfl ⟨rfl,trivial⟩ rfl ?_ ⟨⟨rfl,.inl ⟨1000,rfl,?_⟩⟩,trivial⟩
   . show HV.osl 1000 3 0 (l.length-(i-i))=HV.osl 1000 3 0 (l.map zau.row).length
     rw [hlr,zy95];rfl
   . show zai.live (.row _ 3 (l.map zau.row))=zai.live (.row _ 3 _)
     rw [zy31,zy95,zy120,zy4]
 . refine sN ?_
   refine sO ?_;refine sO ?_;refine ⟨_,rfl,?_,?_⟩
   . rw [hlr];omega
   (conv=>whnf);refine zaa zz3 ?_;(conv=>whnf);refine zaw ?_ ?_
   . kernel_rfl
   (conv=>whnf);refine zaa zz62 ?_;(conv=>whnf);refine zaa zz62 ?_;(conv=>whnf);refine zao [(1000,some 1000)] rfl rfl ⟨rfl,trivial⟩ rfl ?_ ⟨⟨rfl,.inl ⟨1000,rfl,?_⟩⟩,trivial⟩
   . show HV.osl 1000 3 0 _=HV.osl 1000 3 0 _
     congr 1;simp;omega
   . refine (congrArg (fun r=>zai.live (.row _ 3 r)) (yak (rows:=l.map zau.row) (i:=i) (j:=j) (z:=([pi 0,pb false,.v (.slice none 0 0)])) hij (by rw [hlr];exact hj) ?_ ?_ ?_ ?_ ?_)).trans ?_
     . simp<;>omega
     . simp<;>omega
     . simp<;>omega
     . simp;omega
     . simp;omega
     . rw [zy33,zy124,zy104];rfl
theorem xfm (l:List zau) (i j:Nat) (hij:i<=j) (hj:j<=l.length) (hb:l.length<2 ^ 40) :
 zan Tryz.prog 117 [.own 1000,i64 i,i64 j] (lk .free [(1000,.live (.row 110 3 (l.map zau.row)))])
  (.own 0) (lk .free [(1000,.dead),(0,.live (.row 110 3 ((l.take i++l.drop j).map zau.row)))]):=by
 have h:=zkb (d:=0) (L:=[]) (rows:=(l.take i++l.drop j).map zau.row++List.replicate (j-i) ([pi 0,pb false,.v (.slice none 0 0)])) (zvb (yye l i j hij hj hb)) (.inl rfl) zz3 rfl zz4
 rwa [zy87 zz3] at h
theorem ypi (a b:List zau) (x:zau) (i j:Int) (hi:i=a.length) (hj:j=a.length+1) (hb:(a++x::b).length<2 ^ 40) :
 zan Tryz.prog 117 [.own 1000,i64 i,i64 j] (lk .free [(1000,.live (.row 110 3 ((a++x::b).map zau.row)))])
  (.own 0) (lk .free [(1000,.dead),(0,.live (.row 110 3 ((a++b).map zau.row)))]):=by
 subst hi hj;have h:=xfm (a++x::b) a.length (a.length+1) zz0 zz5 hb
 rwa [zy133,show (a++x::b).drop (a.length+1)=b by rw [<- zy145,zy105];rfl,zy126] at h
theorem ydw {inp out:List zau} (a b:List zau) (x:zau) (i j:Int) (h1:inp=a++x::b) (h2:out=a++b) (hi:i=a.length) (hj:j=a.length+1) (hb:inp.length<2 ^ 40) :
 zan Tryz.prog 117 [.own 1000,i64 i,i64 j] (lk .free [(1000,.live (.row 110 3 (inp.map zau.row)))])
  (.own 0) (lk .free [(1000,.dead),(0,.live (.row 110 3 (out.map zau.row)))]):=by
 subst h1 h2;exact ypi a b x i j hi hj hb
theorem xap {N M:Nat} (l:zem) (x:Step) (h:LI N M l) (hN:N+1<=2 ^ 20) (hM:M+120<=2000000) (hx:x.message.data.length<2 ^ 38) :
 zan Tryz.prog 65 [l.hv,x.hv] zad (.tup [.agg (lnC (doS l x).1.sender (doS l x).1.receiver (.own 0)),(doS l x).2.hv]) (lk .free [(0,zhc (doS l x).1.way)]):=by
 have hway:=h.way;have hby:=h.bytes;generalize hT:doS l x=T;rw [doS] at hT;refine zap mixed Tryz.func65 zz4 [] (fun _=>.inl rfl) ?_;(conv=>whnf)
 (refine zat [(0,20)]  ?_;(conv=>whnf);refine dO (yww l h.snd.fit (h.rcv.fit h.small) zz0 (fun p hp=>by have:=hby p hp;omega)) ?_)
 by_cases c1:x.kind=1
 case pos =>
  rw [zy1 c1] at hT;rw [show (x.kind==1)=true from zy15.2 c1];(conv=>whnf);have ps:=Snd.yxc l.sender x.message h.snd.fit hx;by_cases e1:Snd.zep l.sender x.message=0
  case pos =>
   rw [zy1 e1] at hT;subst hT;rw [Snd.zqa e1] at ps
   (refine cP ?_;refine dL ps ?_)
   repeat refine sG ?_
   have hy:=(show LI (N+1) M {l with sender:=Snd.zhv l.sender x.message} from ⟨Snd.ybz h.snd e1 hN,h.rcv,h.small,h.way,h.bytes⟩)
   have hyw:=Snd.zde hy.snd.cfg;have hyp:=hy.snd.npaths
   (refine cP ?_;refine dL (Snd.zmp (({l with sender:=Snd.zhv l.sender x.message}:zem)).sender hy.snd.pf zz130 zz0) ?_)
   repeat refine sG ?_
   (refine zae [] [(1000,6),(1001,20)] [(0,950)] ?_;(conv=>whnf);refine dG (zld (Snd.zjs (({l with sender:=Snd.zhv l.sender x.message}:zem)).sender).1 (({l with sender:=Snd.zhv l.sender x.message}:zem)).receiver (({l with sender:=Snd.zhv l.sender x.message}:zem)).way (Snd.zjs (({l with sender:=Snd.zhv l.sender x.message}:zem)).sender).2 (Snd.zhg hy.snd)) ?_ ⟨rfl,rfl,rfl,⟨zz1,⟨zz1,trivial⟩⟩,⟨⟨rfl,rfl⟩,trivial⟩,rfl,rfl,rfl⟩)
   exact yy39
  case neg =>
   rw [zy0 e1] at hT;subst hT;rw [Snd.zjm rfl e1] at ps
   (refine cP ?_;refine dL ps ?_)
   rw [show (Snd.zep l.sender x.message != 0)=true from zy77.2 e1];(conv=>whnf);exact yy21
 case neg =>
  rw [zy0 c1] at hT;rw [show (x.kind==1)=false from zy5.2 c1];(conv=>whnf)
  repeat refine sG ?_
  by_cases c2:x.kind=2\/x.kind=3\/x.kind=4
  case neg =>
   rw [zy0 c2] at hT;have c2:=not_or.1 c2;have c3:=not_or.1 c2.2;rw [show (x.kind==2)=false from zy5.2 c2.1];(conv=>whnf)
   repeat refine sG ?_
   rw [show (x.kind==3)=false from zy5.2 c3.1];(conv=>whnf)
   repeat refine sG ?_
   rw [show (x.kind==4)=false from zy5.2 c3.2];(conv=>whnf)
   repeat refine sG ?_
   by_cases c5:x.kind=5
   case pos =>
    rw [zy1 c5] at hT;subst hT;rw [show (x.kind==5)=true from zy15.2 c5];(conv=>whnf)
    repeat refine sG ?_
    (refine cP ?_;refine dL (Snd.yxh l.sender h.snd.fit) ?_)
    repeat refine sG ?_
    have hy:=(show LI N M {l with sender:=Snd.tick l.sender} from ⟨Snd.ycv h.snd,h.rcv,h.small,h.way,h.bytes⟩)
    have hyw:=Snd.zde hy.snd.cfg;have hyp:=hy.snd.npaths
    (refine cP ?_;refine dL (Snd.zmp (({l with sender:=Snd.tick l.sender}:zem)).sender hy.snd.pf zz130 zz0) ?_)
    repeat refine sG ?_
    (refine zae [] [(1000,6),(1001,20)] [(0,950)] ?_;(conv=>whnf);refine dG (zld (Snd.zjs (({l with sender:=Snd.tick l.sender}:zem)).sender).1 (({l with sender:=Snd.tick l.sender}:zem)).receiver (({l with sender:=Snd.tick l.sender}:zem)).way (Snd.zjs (({l with sender:=Snd.tick l.sender}:zem)).sender).2 (Snd.zhg hy.snd)) ?_ ⟨rfl,rfl,rfl,⟨zz1,⟨zz1,trivial⟩⟩,⟨⟨rfl,rfl⟩,trivial⟩,rfl,rfl,rfl⟩)
    exact yy39
   case neg =>
    rw [zy0 c5] at hT;subst hT;rw [show (x.kind==5)=false from zy5.2 c5];(conv=>whnf);exact yy21
  case pos =>
   rw [zy1 c2] at hT;have c6:x.kind=2\/x.kind≠2/\(x.kind=3\/x.kind≠3/\x.kind=4):=by omega
   rcases c6 with c6 | ⟨c8,c6 | ⟨c7,c6⟩⟩
   . rw [show (x.kind==2)=true from zy15.2 c6]
     conv=>whnf
     repeat refine sG ?_
     by_cases n0:x.n<0
     case pos =>
      rw [zy1 n0] at hT;subst hT;rw [show decide (x.n<0)=true from zy10 n0];(conv=>whnf);exact yy21
     case neg =>
     rw [zy0 n0] at hT;rw [show decide (x.n<0)=false from zy11 n0];(conv=>whnf);cases hp:l.way[x.n.toNat]? with
     | none =>
      rw [hp] at hT;dsimp only at hT;subst hT;have hge:=zy86.1 hp;rw [show decide (x.n>=((l.way.map zau.row).length:Int))=true from zy10 (by rw [zy2];omega)];(conv=>whnf);exact yy21
     | some p =>
     rw [hp] at hT;dsimp only at hT;have hlt:=(zy9.1 hp).1;have hpb:=hby p (zy21 hp);have hsp:l.way=l.way.take x.n.toNat++p::l.way.drop (x.n.toNat+1):=by
      obtain ⟨hk,e⟩:=zy9.1 hp;rw [<- e,zy106,zy31]
     have hsl:(l.way.take x.n.toNat).length=x.n.toNat:=by simp;omega
     have her:l.way.eraseIdx x.n.toNat=l.way.take x.n.toNat++l.way.drop (x.n.toNat+1):=zy60 _ _;rw [show decide (x.n>=((l.way.map zau.row).length:Int))=false from zy11 (by rw [zy2];omega)];(conv=>whnf)
     repeat refine sG ?_
     refine zaa ⟨by omega,by rw [zy2];omega⟩ (zw ?_);refine Snd.zam hp zz0 (zw ?_);rw [zy0 (by omega),zy1 c6] at hT;rw [show (x.kind==4)=false from zy5.2 (by omega)];(conv=>whnf)
     repeat refine sG ?_
     refine zaq (z:=x.n+1) (zbu zz0 zz0) (zw ?_)
     (refine zae [] [(1000,20)] [(0,930)] ?_;(conv=>whnf);refine dG (ydw (l.way.take x.n.toNat) (l.way.drop (x.n.toNat+1)) p x.n (x.n+1) hsp rfl zz0 zz0 zz0) ?_)
     rw [show (x.kind==2)=true from zy15.2 c6];(conv=>whnf);subst hT;have hli:LI N M {l with way:=l.way.eraseIdx x.n.toNat}:=⟨h.snd,h.rcv,h.small,by show (l.way.eraseIdx _).length<=40;rw [zy81];split<;>omega,fun q hq=>hby q (zy68 hq)⟩
     (refine zae [] [(1000,6),(1001,930)] [(0,940)] ?_;(conv=>whnf);refine dG (yqn {l with way:=l.way.eraseIdx x.n.toNat} p hli hM hpb) ?_ ⟨rfl,rfl,rfl,⟨zz1,⟨⟨rfl,_,rfl,.inl ⟨rfl,(zar (by rw [her]))⟩⟩,trivial⟩⟩,⟨⟨rfl,rfl⟩,trivial⟩,rfl,rfl,rfl⟩)
     repeat refine sG ?_
     have hy:=(yai hli hpb hM)
     have hyw:=Snd.zde hy.snd.cfg;have hyp:=hy.snd.npaths
     (refine cP ?_;refine dL (Snd.zmp ((zhf {l with way:=l.way.eraseIdx x.n.toNat} p)).sender hy.snd.pf zz130 zz0) ?_)
     repeat refine sG ?_
     (refine zae [] [(1000,6),(1001,940)] [(0,950)] ?_;(conv=>whnf);refine dG (zld (Snd.zjs ((zhf {l with way:=l.way.eraseIdx x.n.toNat} p)).sender).1 ((zhf {l with way:=l.way.eraseIdx x.n.toNat} p)).receiver ((zhf {l with way:=l.way.eraseIdx x.n.toNat} p)).way (Snd.zjs ((zhf {l with way:=l.way.eraseIdx x.n.toNat} p)).sender).2 (Snd.zhg hy.snd)) ?_ ⟨rfl,rfl,rfl,⟨zz1,⟨zz1,trivial⟩⟩,⟨⟨rfl,rfl⟩,trivial⟩,rfl,rfl,rfl⟩)
     exact yy39
   . rw [show (x.kind==2)=false from zy5.2 c8]
     conv=>whnf
     repeat refine sG ?_
     rw [show (x.kind==3)=true from zy15.2 c6];(conv=>whnf)
     repeat refine sG ?_
     by_cases n0:x.n<0
     case pos =>
      rw [zy1 n0] at hT;subst hT;rw [show decide (x.n<0)=true from zy10 n0];(conv=>whnf);exact yy21
     case neg =>
     rw [zy0 n0] at hT;rw [show decide (x.n<0)=false from zy11 n0];(conv=>whnf);cases hp:l.way[x.n.toNat]? with
     | none =>
      rw [hp] at hT;dsimp only at hT;subst hT;have hge:=zy86.1 hp;rw [show decide (x.n>=((l.way.map zau.row).length:Int))=true from zy10 (by rw [zy2];omega)];(conv=>whnf);exact yy21
     | some p =>
     rw [hp] at hT;dsimp only at hT;have hlt:=(zy9.1 hp).1;have hpb:=hby p (zy21 hp);have hsp:l.way=l.way.take x.n.toNat++p::l.way.drop (x.n.toNat+1):=by
      obtain ⟨hk,e⟩:=zy9.1 hp;rw [<- e,zy106,zy31]
     have hsl:(l.way.take x.n.toNat).length=x.n.toNat:=by simp;omega
     have her:l.way.eraseIdx x.n.toNat=l.way.take x.n.toNat++l.way.drop (x.n.toNat+1):=zy60 _ _;rw [show decide (x.n>=((l.way.map zau.row).length:Int))=false from zy11 (by rw [zy2];omega)];(conv=>whnf)
     repeat refine sG ?_
     refine zaa ⟨by omega,by rw [zy2];omega⟩ (zw ?_);refine Snd.zam hp zz0 (zw ?_);rw [zy0 (by omega),zy0 c8] at hT;rw [show (x.kind==4)=false from zy5.2 (by omega)];(conv=>whnf)
     repeat refine sG ?_
     refine zaq (z:=x.n+1) (zbu zz0 zz0) (zw ?_)
     (refine zae [] [(1000,20)] [(0,930)] ?_;(conv=>whnf);refine dG (ydw (l.way.take x.n.toNat) (l.way.drop (x.n.toNat+1)) p x.n (x.n+1) hsp rfl zz0 zz0 zz0) ?_)
     rw [show (x.kind==2)=false from zy5.2 c8];(conv=>whnf)
     repeat refine sG ?_
     subst hT;have hli:LI N M {l with way:=l.way.eraseIdx x.n.toNat}:=⟨h.snd,h.rcv,h.small,by show (l.way.eraseIdx _).length<=40;rw [zy81];split<;>omega,fun q hq=>hby q (zy68 hq)⟩
     have hy:=hli;have hyw:=Snd.zde hy.snd.cfg;have hyp:=hy.snd.npaths
     (refine cP ?_;refine dL (Snd.zmp (({l with way:=l.way.eraseIdx x.n.toNat}:zem)).sender hy.snd.pf zz130 zz0) ?_)
     repeat refine sG ?_
     (refine zae [] [(1000,6),(1001,930)] [(0,950)] ?_;(conv=>whnf);refine dG (zld (Snd.zjs (({l with way:=l.way.eraseIdx x.n.toNat}:zem)).sender).1 (({l with way:=l.way.eraseIdx x.n.toNat}:zem)).receiver (({l with way:=l.way.eraseIdx x.n.toNat}:zem)).way (Snd.zjs (({l with way:=l.way.eraseIdx x.n.toNat}:zem)).sender).2 (Snd.zhg hy.snd)) ?_ ⟨rfl,rfl,rfl,⟨zz1,⟨⟨rfl,_,rfl,.inl ⟨rfl,(zar (by rw [her]))⟩⟩,trivial⟩⟩,⟨⟨rfl,rfl⟩,trivial⟩,rfl,rfl,rfl⟩)
     exact yy39
   . rw [show (x.kind==2)=false from zy5.2 c8]
     conv=>whnf
     repeat refine sG ?_
     rw [show (x.kind==3)=false from zy5.2 c7];(conv=>whnf)
     repeat refine sG ?_
     rw [show (x.kind==4)=true from zy15.2 c6];(conv=>whnf)
     repeat refine sG ?_
     by_cases n0:x.n<0
     case pos =>
      rw [zy1 n0] at hT;subst hT;rw [show decide (x.n<0)=true from zy10 n0];(conv=>whnf);exact yy21
     case neg =>
     rw [zy0 n0] at hT;rw [show decide (x.n<0)=false from zy11 n0];(conv=>whnf);cases hp:l.way[x.n.toNat]? with
     | none =>
      rw [hp] at hT;dsimp only at hT;subst hT;have hge:=zy86.1 hp;rw [show decide (x.n>=((l.way.map zau.row).length:Int))=true from zy10 (by rw [zy2];omega)];(conv=>whnf);exact yy21
     | some p =>
     rw [hp] at hT;dsimp only at hT;have hlt:=(zy9.1 hp).1;have hpb:=hby p (zy21 hp);have hsp:l.way=l.way.take x.n.toNat++p::l.way.drop (x.n.toNat+1):=by
      obtain ⟨hk,e⟩:=zy9.1 hp;rw [<- e,zy106,zy31]
     have hsl:(l.way.take x.n.toNat).length=x.n.toNat:=by simp;omega
     have her:l.way.eraseIdx x.n.toNat=l.way.take x.n.toNat++l.way.drop (x.n.toNat+1):=zy60 _ _;rw [show decide (x.n>=((l.way.map zau.row).length:Int))=false from zy11 (by rw [zy2];omega)];(conv=>whnf)
     repeat refine sG ?_
     refine zaa ⟨by omega,by rw [zy2];omega⟩ (zw ?_);refine Snd.zam hp zz0 (zw ?_);rw [zy1 c6] at hT;rw [show (x.kind==4)=true from zy15.2 c6];(conv=>whnf)
     (refine zat [(0,935)]  ?_;(conv=>whnf);refine dO (yol [p] zz5 (fun q hq=>by rw [zy25] at hq;subst hq;omega)) ?_)
     (refine zae [false,true] [(1000,6),(1001,20)] [(0,940)] ?_;(conv=>whnf);refine dG (zld l.sender l.receiver l.way [p] zz5) ?_)
     repeat refine sG ?_
     subst hT;have yyp:LI N M {l with way:=zlv l.way [p]}:=ygo h fun q hq=>by rw [zy25] at hq;subst hq;exact hpb
     have hy:=yyp;have hyw:=Snd.zde hy.snd.cfg;have hyp:=hy.snd.npaths
     (refine cP ?_;refine dL (Snd.zmp (({l with way:=zlv l.way [p]}:zem)).sender hy.snd.pf zz130 zz0) ?_)
     repeat refine sG ?_
     (refine zae [] [(1000,6),(1001,940)] [(0,950)] ?_;(conv=>whnf);refine dG (zld (Snd.zjs (({l with way:=zlv l.way [p]}:zem)).sender).1 (({l with way:=zlv l.way [p]}:zem)).receiver (({l with way:=zlv l.way [p]}:zem)).way (Snd.zjs (({l with way:=zlv l.way [p]}:zem)).sender).2 (Snd.zhg hy.snd)) ?_ ⟨rfl,rfl,rfl,⟨zz1,⟨zz1,trivial⟩⟩,⟨⟨rfl,rfl⟩,trivial⟩,rfl,rfl,rfl⟩)
     exact yy39
theorem xeo {N M:Nat} (l:zem) (x:Step) (h:LI N M l) (hN:N+1<=2 ^ 20) (hM:M+120<=2000000) (hx:x.message.data.length<2 ^ 38) :
 zan Tryz.prog 65 [l.hv,x.hv] zad (.tup [(doS l x).1.hv,(doS l x).2.hv]) zad:=by
 refine zcn Tryz.func65 (xap l x h hN hM hx) ?_;generalize doS l x=d;(conv=>whnf)
 rfl
end Ln
namespace Ln
open Ser
abbrev xei (l:List Answer):zai:=.live (.row 81 2 (l.map Answer.row))
abbrev yxw (l:List Step):HV:=.p (.sl 7 (l.map Step.row))
abbrev lnL (l:zem):zai:=.live (.cells 40 l.cells)
abbrev xgv:List HV:=[i64 0,i64 0,i64 0,i64 0,i64 0,i64 0,i64 0,i64 0,zee,i64 0,i64 0,zee,zee,zee,i64 0,i64 0,i64 0,zee,zee,zbj false,i64 0,i64 0,i64 0,i64 0,i64 0,i64 0,i64 0,i64 0,i64 0,zee,zee,zee,zee,zee]
def zky (c:Config) (l:List Step):zem×List Answer×Int :=
 if Snd.zju c≠0 then (noL,[],Snd.zju c) else if l.length>200 then (noL,[],5) else ((znw (zkg c) l).1,(znw (zkg c) l).2,0)
theorem ygn (l:zem) (A:List Step) (x:Step):znw l (A++[x])=((doS (znw l A).1 x).1,(znw l A).2++[(doS (znw l A).1 x).2]):=by
 rw [yny];rfl
theorem yhr (c:Config) (l:List Step) (h:Snd.zju c≠0\/l.length>200) :
 zan Tryz.prog 21 [c.hv,yxw l] zad (.tup [(zky c l).1.hv,.p (.sl 2 ((zky c l).2.1.map Answer.row)),i64 (zky c l).2.2]) zad:=by
 refine zal mixed Tryz.func21 zz4 ?_;generalize hT:zky c l=T;rw [zky] at hT;(conv=>whnf);have pn:=yhm c;by_cases c1:Snd.zju c=0
 case neg =>
  rw [zy1 c1] at hT;subst hT;rw [show ztj c=(noL,Snd.zju c) from zy0 c1] at pn
  (refine cP ?_;refine dL pn ?_)
  rw [show (Snd.zju c != 0)=true from zy77.2 c1];(conv=>whnf)
  try rfl
 case pos =>
  rw [zy0 (fun h=>h c1)] at hT;rw [show ztj c=(zkg c,0) from zy1 c1] at pn
  (refine cP ?_;refine dL pn ?_)
  repeat refine sG ?_
  have c2:l.length>200:=h.resolve_left (fun h=>h c1);rw [zy1 c2] at hT;subst hT;refine zac zz3 (zw ?_)
  try rfl
theorem yqt (c:Config) (l:List Step) (c1:Snd.zju c=0) (c2:¬ l.length>200) (hb:∀ x∈l,x.message.data.length<2 ^ 38) :
 zan Tryz.prog 21 [c.hv,yxw l] zad (.tup [(zky c l).1.hv,.own 0,i64 (zky c l).2.2]) (lk .free [(0,xei (zky c l).2.1)]):=by
 refine zap mixed Tryz.func21 zz4 [] (fun _=>.inl rfl) ?_;generalize hT:zky c l=T;rw [zky,zy0 (fun h=>h c1),zy0 c2] at hT;(conv=>whnf);have pn:=yhm c;rw [show ztj c=(zkg c,0) from zy1 c1] at pn
 (refine cP ?_;refine dL pn ?_)
 repeat refine sG ?_
 refine zab zz3 (zw ?_)
 repeat refine sG ?_
 refine ⟨{x:(zem×List Answer)×List Step×List Step // l=x.2.1++x.2.2/\znw (zkg c) x.2.1=x.1/\LI x.2.1.length (120*x.2.1.length) x.1.1},fun | ⟨((y,az),A,B),_⟩=>hs 47 [(4,.ptr 4 0),(7,.ptr 7 0),(9,.own 900),(27,yxw l),(28,i64 l.length),(29,i64 A.length)] [(4,.live (.cells 40 xgv)),(7,lnL y),(900,xei az)],fun x=>x.1.2.2.length,⟨((zkg c,[]),[],l),rfl,rfl,yur c1⟩,?_,?_⟩
 . exact (zbi [(4,some 4),(7,some 7),(900,none)])
 rintro ⟨⟨⟨y,az⟩,A,B⟩,k1,k2,k3⟩;dsimp only at k1 k2 k3;(conv=>whnf);cases B with
 | cons x B =>
  have hz:=zbe k1;have hxd:=hb x (zgf k1);have hnx:=ygn (zkg c) A x;rw [k2] at hnx;dsimp only at hnx;have hli:=xbi k3 x zz0 zz0;have pd:=xeo y x k3 zz0 zz0 hxd;have hal:az.length=A.length:=by have:=zub A (zkg c);rw [k2] at this;exact this
  generalize doS y x=D at hnx hli pd;obtain ⟨z,a⟩:=D;dsimp only at hnx hli;refine sT ?_;refine zaj k1 rfl (zw ?_)
  (refine cP ?_;refine dL pd ?_)
  refine zaa (c:=((az.map Answer.row).length+1)*16<=140737488355328) zz6 (zw ?_);refine sF ?_;exact ⟨⟨((z,az++[a]),A++[x],B),zag k1,hnx,by rw [zy8,zy62,show 120*(A.length+1)=120*A.length+120 by omega];exact hli⟩,(zaz [(4,some 4),(7,some 7),(900,some 43)] zz73),by simp⟩
 | nil =>
  have hz:=zbn k1;rw [zy4] at k1;rw [<- k1] at k2;rw [k2] at hT;subst hT;refine sN ?_;exact zao [(0,some 900)] rfl rfl trivial rfl rfl ⟨⟨rfl,.inl ⟨900,rfl,rfl⟩⟩,trivial⟩
theorem ywx (c:Config) (l:List Step) (hb:∀ x∈l,x.message.data.length<2 ^ 38) :
 zan Tryz.prog 21 [c.hv,yxw l] zad (.tup [(zky c l).1.hv,.p (.sl 2 ((zky c l).2.1.map Answer.row)),i64 (zky c l).2.2]) zad:=by
 by_cases h:Snd.zju c≠0\/l.length>200
 . exact yhr c l h
 have h:=not_or.1 h;refine zcn Tryz.func21 (yqt c l (Decidable.not_not.1 h.1) h.2 hb) ?_;generalize zky c l=d;(conv=>whnf)
 rfl
end Ln
namespace Snd
open Ser
def yis:Config:=⟨1,4,40,1,1,3,0⟩
end Snd
namespace Ln
open Ser Snd
def stp (k:Int):Step:=⟨k,0,⟨0,false,0,0,[]⟩⟩
end Ln
namespace Rcv
open Srt Jn Ser
section
variable {C X Y:List Chunk} {M:Nat->List (List UInt8)} {r:Receiver} {T:Nat->Nat}
end
end Rcv
namespace Sch
section
variable {α:Type} {p:α->Bool}
end
end Sch
namespace Gh
open Ser Srt Jn
section
variable {c:Config} {L:List Message}
end
end Gh
namespace Gh
open Ser Snd
section
variable {c:Config} {L:List Message} {A:Nat->Prop} {s:zah}
end
end Gh
namespace Pck
open Chk
end Pck
namespace Gh
open Ser Snd
section
variable {c:Config} {L:List Message} {A:Nat->Prop} {s:zah} {N:Nat}
end
end Gh
namespace Gh
open Ser Snd
section
variable {c:Config} {L:List Message} {A:Nat->Prop} {s:zah} {N:Nat}
end
end Gh
namespace Gh
open Ser Snd
section
variable {c:Config} {L:List Message} {A F:Nat->Prop} {s:zah} {N:Nat}
end
end Gh
namespace Gh
open Ser Srt Jn Rcv
section
variable {c:Config} {L:List Message} {A F:Nat->Prop} {D:List Nat} {r:Receiver}
end
end Gh
namespace Gh
open Ser Srt Jn Rcv
section
variable {c:Config} {L:List Message} {A F:Nat->Prop} {D:List Nat} {r:Receiver}
end
end Gh
namespace Gh
open Ser Snd Ln
section
variable {N M:Nat} {c:Config} {L:List Message} {A F:Nat->Prop} {D:List Nat} {l:zem}
def xcf (x:Step) (a:Answer):List Message:=if x.kind=1/\a.err=0 then [x.message] else []
def znr:List Step->List Answer->List Message
 | x::l,a::b=>xcf x a++znr l b
 | _,_=>[]
end
end Gh
namespace Gh
open Ser Snd Ln
theorem yul (l:List UInt8):∀ (k i:Nat) (r:List UInt8),k=l.length-i->ByteArray.toList.loop (⟨l.toArray⟩:ByteArray) i r=r.reverse++l.drop i
 | 0,i,r,h=>by
  rw [ByteArray.toList.loop,zy0 (by show ¬ i<l.toArray.size;simp;omega),zy19 (by omega),zy4]
 | k+1,i,r,h=>by
  have hi:i<l.length:=by omega
  rw [ByteArray.toList.loop,zy1 (by show i<l.toArray.size;simpa using hi),yul l k (i+1) _ (by omega),zy18 hi];have:(⟨l.toArray⟩:ByteArray).get! i=l[i]:=by
   show l.toArray[i]! = l[i];simp [hi]
  rw [this];simp
theorem toList_mk (l:List UInt8):(⟨l.toArray⟩:ByteArray).toList=l:=by
 rw [ByteArray.toList,yul l (l.length-0) 0 [] rfl];simp
theorem xcd (l m:List UInt8):((⟨l.toArray⟩:ByteArray).toList==(⟨m.toArray⟩:ByteArray).toList)=decide (l=m):=by
 rw [toList_mk,toList_mk,zy110];simp
section
variable {T:List Message} {lg:List zax} {D:List Nat} {A A':List zax} {a:zax} {U:List Nat} {B:List Bool} {E:List (Int×Int)}
end
theorem zzs (x:Step) (a:Answer):∀ (A:List Step) (az:List Answer),az[A.length]?=some a->znr (A++[x]) az=znr A az++xcf x a
 | [],[],h=>by simp at h
 | [],b::az,h=>by
  simp only [zy12,List.getElem?_cons_zero,Option.some.injEq] at h;subst h;show xcf x b++znr [] az=[]++xcf x b;cases az<;>simp [znr]
 | y::A,[],h=>by simp at h
 | y::A,b::az,h=>by
  rw [zy40,znr,znr,zzs x a A az (by simpa using h),zy27]
theorem yhz:∀ (l:List Step) (az:List Answer),(znr l az).length<=l.length
 | [],az=>by cases az<;>simp [znr]
 | x::l,[]=>by simp [znr]
 | x::l,a::az=>by
  have:=yhz l az;rw [znr,zy8,zy6];unfold xcf;split<;>simp<;>omega
end Gh
namespace Gh
open Ser Snd Ln
abbrev xif (l:List Answer):HV:=.p (.sl 2 (l.map Answer.row))
abbrev msgs (l:List Message):HV:=.p (.sl 5 (l.map Message.row))
abbrev xhw (l:List Message):zai:=.live (.row 48 5 (l.map Message.row))
end Gh
namespace Gh
open Ser Snd Ln
def zqo (c:Config) (l:List Step):List Message×Int:=if Snd.zju c≠0 then ([],Snd.zju c) else if l.length>200 then ([],5) else (znr l (znw (zkg c) l).2,0)
theorem yrm (c:Config) (l:List Step) (hb:∀ x∈l,x.message.data.length<2 ^ 38) (hl:l.length<2 ^ 38):zan Tryz.prog 58 [c.hv,yxw l] zad (.tup [msgs (zqo c l).1,i64 (zqo c l).2]) zad:=by
 refine zal mixed Tryz.func58 zz4 ?_;(conv=>whnf);have pk:=ywx c l hb;by_cases c3:Snd.zju c=0
 case neg =>
  have e1:zky c l=(noL,[],Snd.zju c):=zy1 c3;rw [e1] at pk;rw [show zqo c l=([],Snd.zju c) from zy1 c3];dsimp only at pk;generalize Snd.zju c=e at c3 pk
  (refine cP ?_;refine dL pk ?_)
  refine zac (zy77.2 c3) (zw ?_)
  try rfl
 by_cases c2:l.length>200
 case pos =>
  have e1:zky c l=(noL,[],5):=by rw [zky,zy0 (fun h=>h c3),zy1 c2]
  rw [e1] at pk;rw [show zqo c l=([],5) by rw [zqo,zy0 (fun h=>h c3),zy1 c2]];dsimp only at pk
  (refine cP ?_;refine dL pk ?_)
  try rfl
 have e1:zky c l=((znw (zkg c) l).1,(znw (zkg c) l).2,0):=by rw [zky,zy0 (fun h=>h c3),zy0 c2]
 rw [e1] at pk;rw [show zqo c l=(znr l (znw (zkg c) l).2,0) by rw [zqo,zy0 (fun h=>h c3),zy0 c2]];have hpl:=zub l (zkg c);dsimp only at pk;generalize znw (zkg c) l=P at pk hpl;obtain ⟨y,az⟩:=P;dsimp only at pk hpl
 (refine cP ?_;refine dL pk ?_)
 (try refine sG ?_)
 refine ⟨{x:List Step×List Step // l=x.1++x.2},fun | ⟨(A,B),_⟩=>hs 53 [(7,xif az),(9,.own 900),(23,yxw l),(24,i64 l.length),(25,i64 A.length)] [(900,xhw (znr A az))],fun x=>x.1.2.length,⟨([],l),rfl⟩,?_,?_⟩
 . exact (zaz [(900,none)] (by repeat' (first | exact z0 | refine z1 ?_ | refine ⟨?_,?_⟩ | ((cases az<;>rfl)) | exact z2)))
 rintro ⟨⟨A,B⟩,h⟩;dsimp only at h;refine zcd fun Q hQ=>?_
 (conv=>whnf);cases B with
 | cons x B =>
  have hz:=zbe h;have hxd:=hb x (zgf h);obtain ⟨a,ha⟩:∃ a,az[A.length]?=some a:=⟨_,zy3 zz0⟩
  have hsn:=zzs x a A az ha;have hlen:=yhz A az;refine sT ?_;refine zaj h rfl (zw ?_)
  (try refine sG ?_)
  by_cases c1:x.kind=1
  case neg =>
   rw [xcf,zy0 (fun h=>c1 h.1),zy4] at hsn;refine zab (zy5.2 c1) (zw ?_);exact yy131
  refine zac (zy15.2 c1) (zw ?_);refine zam ha rfl (zw ?_);by_cases c4:a.err=0
  case neg =>
   rw [xcf,zy0 (fun h=>c4 h.2),zy4] at hsn;refine zab (zy5.2 c4) (zw ?_);exact yy131
  rw [xcf,zy1 ⟨c1,c4⟩] at hsn;refine zac (zy15.2 c4) (zw ?_)
  (refine zat [(0,45)]  ?_;(conv=>whnf);refine dO (Cl.zdb x.message.data zz0) ?_)
  refine zaa (c:=(((znr A az).map Message.row).length+1)*56<=140737488355328) zz6 (zw ?_);refine sF ?_;refine hQ _ _ ?_;conv=>whnf
  exact ⟨⟨(A++[x],B),zag h⟩,(zaz [(900,some 50)] (by repeat' (first | exact z0 | refine z1 ?_ | refine ⟨?_,?_⟩ | ((exact zbc (f:=Message.row) hsn rfl)) | exact z2))),by simp⟩
 | nil =>
  have hz:=zbn h;rw [zy4] at h;subst h;refine sN ?_;refine hQ _ _ ?_;conv=>whnf
  try rfl
end Gh
namespace Gh
open Ser Snd Ln
def nF (k:Int) (l:List Int):Nat:=(l.filter (·==k)).length
theorem zht (k x:Int) (l:List Int):nF k (l++[x])=nF k l+if x=k then 1 else 0:=by
 unfold nF;rw [zy42,zy8];by_cases h:x=k
 . rw [zy1 h,zy122 (by simp [h])];rfl
 . rw [zy0 h,zy121 (by simp [h])];rfl
theorem xdq (k:Int) (l:List Int):nF k l<=l.length:=zy30 _ _
abbrev ysk (l:List Int):List HV:=[i64 (nF 1 l),i64 (nF 2 l),i64 (nF 3 l)]
theorem ysl {v:Int} (h:v<1\/3<v) (A:List Int):ysk (A++[v])=ysk A:=by
 unfold ysk;rw [zht,zht,zht,zy0 (show ¬ v=1 by omega),zy0 (show ¬ v=2 by omega),zy0 (show ¬ v=3 by omega)];rfl
theorem xfj (A:List Int):ysk (A++[1])=[i64 ((nF 1 A:Int)+1),i64 (nF 2 A),i64 (nF 3 A)]:=by
 unfold ysk;rw [zht,zht,zht,zy1 rfl,zy0 (show ¬ (1:Int)=2 by decide),zy0 (show ¬ (1:Int)=3 by decide)];rfl
theorem xfk (A:List Int):ysk (A++[2])=[i64 (nF 1 A),i64 ((nF 2 A:Int)+1),i64 (nF 3 A)]:=by
 unfold ysk;rw [zht,zht,zht,zy1 rfl,zy0 (show ¬ (2:Int)=1 by decide),zy0 (show ¬ (2:Int)=3 by decide)];rfl
theorem xfl (A:List Int):ysk (A++[3])=[i64 (nF 1 A),i64 (nF 2 A),i64 ((nF 3 A:Int)+1)]:=by
 unfold ysk;rw [zht,zht,zht,zy1 rfl,zy0 (show ¬ (3:Int)=1 by decide),zy0 (show ¬ (3:Int)=2 by decide)];rfl
theorem yqk (y:zem) (hf:y.sender.fates.length<2 ^ 60):zan Tryz.prog 61 [y.hv] zad (.agg (ysk y.sender.fates)) zad:=by
 refine zal mixed Tryz.func61 zz4 ?_;(conv=>whnf);refine ⟨{x:List Int×List Int // y.sender.fates=x.1++x.2},fun | ⟨(A,B),_⟩=>hs 28 [(2,.ptr 2 0),(3,.ptr 3 0),(8,ints y.sender.fates),(9,i64 y.sender.fates.length),(10,i64 A.length)] [(2,.live (.cells 103 [i64 0,i64 0,i64 0])),(3,.live (.cells 103 (ysk A)))],fun x=>x.1.2.length,⟨([],y.sender.fates),rfl⟩,?_,?_⟩
 . exact (zbi [(2,some 2),(3,some 3)])
 rintro ⟨⟨A,B⟩,g⟩;dsimp only at g;refine zcd fun Q hQ=>?_
 (conv=>whnf);cases B with
 | nil =>
  have gz:=zbn g;rw [zy4] at g;refine sN ?_;refine hQ _ _ ?_;conv=>whnf
  rw [g]
  try rfl
 | cons v B =>
 have gz:=zbe g;have n1:=xdq 1 A;have n2:=xdq 2 A;have n3:=xdq 3 A;refine sT ?_;refine zaj (f:=fun n:Int=>[pi n]) g rfl (zw ?_)
 (try refine sG ?_)
 by_cases c1:v>=1
 case neg =>
  refine zab (zy11 c1) (zw ?_);exact yy126
 refine zac (zy10 c1) ?_;conv=>whnf
 by_cases c2:v<=3
 case neg =>
  refine zab (zy11 c2) ?_;conv=>whnf
  exact yy126
 refine zac (zy10 c2) ?_;conv=>whnf
 obtain rfl | hv:=(show v=1\/(v=2\/v=3) by omega)
 case inl =>
  (conv=>whnf);refine zaq (z:=1-1) (zbu zz4 zz4) (zw ?_);refine ⟨0,by decide,by decide,zw ?_⟩;refine sF ?_;refine ⟨0,by decide,by decide,zw ?_⟩
  (try refine sG ?_)
  refine sF ?_;refine hQ _ _ ?_;conv=>whnf
  exact ⟨⟨(A++[1],B),zag g⟩,(zaz [(2,some 2),(3,some 3)] (by repeat' (first | exact z0 | refine z1 ?_ | refine ⟨?_,?_⟩ | ((rw [xfj])) | exact z2))),by simp⟩
 obtain rfl | rfl:=hv
 case inl =>
  (conv=>whnf);refine zaq (z:=2-1) (zbu zz4 zz4) (zw ?_);refine ⟨1,by decide,by decide,zw ?_⟩;refine sF ?_;refine ⟨1,by decide,by decide,zw ?_⟩
  (try refine sG ?_)
  refine sF ?_;refine hQ _ _ ?_;conv=>whnf
  exact ⟨⟨(A++[2],B),zag g⟩,(zaz [(2,some 2),(3,some 3)] (by repeat' (first | exact z0 | refine z1 ?_ | refine ⟨?_,?_⟩ | ((rw [xfk])) | exact z2))),by simp⟩
 case inr =>
  (conv=>whnf);refine zaq (z:=3-1) (zbu zz4 zz4) (zw ?_);refine ⟨2,by decide,by decide,zw ?_⟩;refine sF ?_;refine ⟨2,by decide,by decide,zw ?_⟩
  (try refine sG ?_)
  refine sF ?_;refine hQ _ _ ?_;conv=>whnf
  exact ⟨⟨(A++[3],B),zag g⟩,(zaz [(2,some 2),(3,some 3)] (by repeat' (first | exact z0 | refine z1 ?_ | refine ⟨?_,?_⟩ | ((rw [xfl])) | exact z2))),by simp⟩
end Gh
namespace Gh
open Ser Snd Ln
abbrev zqt (l:List zax):HV:=.p (.sl 4 (l.map zax.row))
theorem zrw (a b:List UInt8):zan Tryz.prog 113 [zxw a,zxw b] zad (zbj (decide (a=b))) zad:=by
 refine zal mixed Tryz.func113 zz4 ?_;(conv=>whnf);refine zjf rfl (zw ?_);refine zjf rfl (zw ?_);rw [xcd]
def alk (s:Int) (o:Bool) (d:List UInt8) (t:Int) (p:Bool) (e:List UInt8):Bool:=s==t&&(o==p&&decide (d=e))
def zxk (m:Message) (l:List zax):Nat:=(l.filter fun a=>alk a.stream a.ordered a.data m.stream m.ordered m.data).length
theorem zpv (m:Message) (l:List zax) (a:zax):zxk m (l++[a])=zxk m l+if alk a.stream a.ordered a.data m.stream m.ordered m.data=true then 1 else 0:=by
 unfold zxk;rw [zy42,zy8];by_cases h:alk a.stream a.ordered a.data m.stream m.ordered m.data=true
 . rw [zy1 h,zy122 (by simpa using h)];rfl
 . rw [zy0 h,zy121 (by simpa using h)];rfl
theorem yks (l:List zax) (m:Message) (hl:l.length<2 ^ 60):zan Tryz.prog 114 [zqt l,m.hv] zad (i64 (zxk m l)) zad:=by
 refine zal mixed Tryz.func114 zz4 ?_;(conv=>whnf);refine ⟨{x:List zax×List zax // l=x.1++x.2},fun | ⟨(A,B),_⟩=>hs 37 [(3,.ptr 3 0),(5,i64 (zxk m A)),(8,zqt l),(9,i64 l.length),(10,i64 A.length)] [(3,.live (.cells 48 m.cells))],fun x=>x.1.2.length,⟨([],l),rfl⟩,?_,?_⟩
 . exact (zbi [(3,some 3)])
 rintro ⟨⟨A,B⟩,g⟩;dsimp only at g;refine zcd fun Q hQ=>?_
 (conv=>whnf);cases B with
 | nil =>
  have gz:=zbn g;rw [zy4] at g;subst g;refine sN ?_;refine hQ _ _ ?_;conv=>whnf
  try rfl
 | cons a B =>
 have gz:=zbe g;have hle:zxk m A<=A.length:=zy30 _ _;refine sT ?_;refine zaj g rfl (zw ?_)
 (try refine sG ?_)
 by_cases c1:a.stream=m.stream
 case neg =>
  refine zab (zy5.2 c1) (zw ?_);have hsn:zxk m (A++[a])=zxk m A:=by rw [zpv,zy0 (by unfold alk;simp [c1])];rfl
  exact yy76
 refine zac (zy15.2 c1) (zw ?_);by_cases c2:a.ordered=m.ordered
 case neg =>
  refine zab (zy5.2 c2) (zw ?_);have hsn:zxk m (A++[a])=zxk m A:=by rw [zpv,zy0 (by unfold alk;simp [c2])];rfl
  exact yy76
 refine zac (zy15.2 c2) (zw ?_)
 (refine cL ?_;refine dLm (zrw a.data m.data) ?_)
 by_cases c3:a.data=m.data
 case neg =>
  rw [show decide (a.data=m.data)=false from zy11 c3];(conv=>whnf);have hsn:zxk m (A++[a])=zxk m A:=by rw [zpv,zy0 (by unfold alk;simp [c3])];rfl
  exact yy76
 rw [show decide (a.data=m.data)=true from zy10 c3];(conv=>whnf);have hsn:zxk m (A++[a])=zxk m A+1:=by rw [zpv,zy1 (by unfold alk;simp [c1,c2,c3])]
 (try refine sG ?_)
 refine sF ?_;refine sF ?_;refine hQ _ _ ?_;conv=>whnf
 exact ⟨⟨(A++[a],B),zag g⟩,(zaz [(3,some 3)] zz99),by simp⟩
end Gh
namespace Gh
open Ser Snd Ln
def asM (a:zax):Message:=⟨a.stream,a.ordered,0,0,a.data⟩
def nTk (T:List Message) (a:zax):Nat:=(T.filter fun m=>alk m.stream m.ordered m.data a.stream a.ordered a.data).length
theorem zty (T:List Message) (m:Message) (a:zax):nTk (T++[m]) a=nTk T a+if alk m.stream m.ordered m.data a.stream a.ordered a.data=true then 1 else 0:=by
 unfold nTk;rw [zy42,zy8];by_cases h:alk m.stream m.ordered m.data a.stream a.ordered a.data=true
 . rw [zy1 h,zy122 (by simpa using h)];rfl
 . rw [zy0 h,zy121 (by simpa using h)];rfl
def xhb (T:List Message) (L:List zax):Bool:=L.all fun a=>decide (zxk (asM a) L<=nTk T a)
def zrk (T:List Message) (a:zax) (n:Nat):Nat:=n+(T.drop n).findIdx fun m=>alk m.stream m.ordered m.data a.stream a.ordered a.data
def zgt (T:List Message) (s:Int):List zax->Nat->Bool
 | [],_=>true
 | a::L,n=>if a.stream≠s\/a.ordered=false then zgt T s L n else if zrk T a n<T.length then zgt T s L (zrk T a n+1) else false
theorem yuu {T:List Message} {a:zax} {k:Nat} (h:T.length<=k):zrk T a k=k:=by
 unfold zrk;rw [zy19 h];rfl
theorem yuv {T:List Message} {a:zax} {k:Nat} {m:Message} (h:T[k]?=some m) (h2:alk m.stream m.ordered m.data a.stream a.ordered a.data=true):zrk T a k=k:=by
 obtain ⟨hlt,rfl⟩:=zy9.1 h;unfold zrk;rw [zy18 hlt,List.findIdx_cons,h2];rfl
theorem zrl {T:List Message} {a:zax} {k:Nat} {m:Message} (h:T[k]?=some m) (h2:alk m.stream m.ordered m.data a.stream a.ordered a.data=false):zrk T a k=zrk T a (k+1):=by
 obtain ⟨hlt,rfl⟩:=zy9.1 h;unfold zrk;rw [zy18 hlt,List.findIdx_cons,h2];show k+(List.findIdx _ _+1)=_;omega
def zia (T:List Message) (L:List zax):Bool:=xhb T L&&(zgt T 0 L 0&&(zgt T 1 L 0&&(zgt T 2 L 0&&zgt T 3 L 0)))
end Gh
namespace Gh
open Ser Snd Ln
abbrev xig (a:zax):zai:=.live (.cells 56 a.cells)
abbrev xis (m:Message):zai:=.live (.cells 48 m.cells)
theorem yiy {T:List Message} {L:List zax} {a:zax} (ha:a∈L) (h:nTk T a<zxk (asM a) L):zia T L=false:=by
 have:xhb T L=false:=by
  unfold xhb;rw [List.all_eq_false];exact ⟨a,ha,by simp;omega⟩
 unfold zia;rw [this];rfl
theorem xax {T:List Message} {L:List zax} {s:Nat} (hs4:s<4) (h:zgt T s L 0=false):zia T L=false:=by
 unfold zia;have h4:s=0\/s=1\/s=2\/s=3:=by omega
 rcases h4 with rfl | rfl | rfl | rfl
 . rw [show zgt T 0 L 0=false from h];simp
 . rw [show zgt T 1 L 0=false from h];simp
 . rw [show zgt T 2 L 0=false from h];simp
 . rw [show zgt T 3 L 0=false from h];simp
theorem yvv {T:List Message} {L:List zax} (h1:∀ a∈L,zxk (asM a) L<=nTk T a) (h2:∀ s:Nat,s<4->zgt T s L 0=true):zia T L=true:=by
 unfold zia;rw [show xhb T L=true from zy56.2 fun a ha=>zy10 (h1 a ha),show zgt T 0 L 0=true from h2 0 (by decide),show zgt T 1 L 0=true from h2 1 (by decide),show zgt T 2 L 0=true from h2 2 (by decide),show zgt T 3 L 0=true from h2 3 (by decide)];rfl
theorem zik (T:List Message) (L:List zax) (hT:T.length<2 ^ 60) (hL:L.length<2 ^ 60):zan Tryz.prog 62 [msgs T,zqt L] zad (zbj (zia T L)) zad:=by
 refine zal mixed Tryz.func62 zz4 ?_;generalize hR:zia T L=R;(conv=>whnf);refine ⟨{x:List zax×List zax // L=x.1++x.2/\∀ a∈x.1,zxk (asM a) L<=nTk T a},fun | ⟨(A,B),_⟩=>hs 121 [(0,msgs T),(1,zqt L),(15,zqt L),(16,i64 L.length),(17,i64 A.length)] [],fun x=>x.1.2.length,⟨([],L),rfl,by simp⟩,?_,?_⟩
 . exact (zbi [])
 rintro ⟨⟨A,B⟩,g,hA⟩;dsimp only at g hA;refine zcd fun Q hQ=>?_
 (conv=>whnf);cases B with
 | cons a B =>
  have gz:=zbe g;have haL:a∈L:=by rw [g];simp
  have pc:=yks L (asM a) hL;refine sT ?_;refine zaj g rfl (zw ?_);refine ⟨{x:List Message×List Message // T=x.1++x.2},fun | ⟨(X,Y),_⟩=>hs 121 [(0,msgs T),(1,zqt L),(6,.ptr 6 0),(7,.ptr 7 0),(8,i64 (nTk X a)),(15,zqt L),(16,i64 L.length),(17,i64 A.length),(28,msgs T),(29,i64 T.length),(30,i64 X.length)] [(6,xig a),(7,xis (asM a))],fun x=>x.1.2.length,⟨([],T),rfl⟩,?_,?_⟩
  . exact (zbi [(6,some 6),(7,some 7)])
  rintro ⟨⟨X,Y⟩,g2⟩;dsimp only at g2;refine zcd fun Q2 hQ2=>?_
  (conv=>whnf);cases Y with
  | cons m Y =>
   have gz2:=zbe g2;have hle:nTk X a<=X.length:=zy30 _ _;refine sT ?_;refine zaj g2 rfl (zw ?_)
   (try refine sG ?_)
   by_cases c1:m.stream=a.stream
   case neg =>
    refine zab (zy5.2 c1) (zw ?_);have hsn:nTk (X++[m]) a=nTk X a:=by rw [zty,zy0 (by unfold alk;simp [c1])];rfl
    exact yy72
   refine zac (zy15.2 c1) (zw ?_);by_cases c2:m.ordered=a.ordered
   case neg =>
    refine zab (zy5.2 c2) (zw ?_);have hsn:nTk (X++[m]) a=nTk X a:=by rw [zty,zy0 (by unfold alk;simp [c2])];rfl
    exact yy72
   refine zac (zy15.2 c2) (zw ?_)
   (refine cL ?_;refine dLm (zrw m.data a.data) ?_)
   by_cases c3:m.data=a.data
   case neg =>
    rw [show decide (m.data=a.data)=false from zy11 c3];(conv=>whnf);have hsn:nTk (X++[m]) a=nTk X a:=by rw [zty,zy0 (by unfold alk;simp [c3])];rfl
    exact yy72
   rw [show decide (m.data=a.data)=true from zy10 c3];(conv=>whnf);have hsn:nTk (X++[m]) a=nTk X a+1:=by rw [zty,zy1 (by unfold alk;simp [c1,c2,c3])]
   (try refine sG ?_)
   refine sF ?_;refine sF ?_;refine hQ2 _ _ (zw ?_);exact ⟨⟨(X++[m],Y),zag g2⟩,(zaz [(6,some 6),(7,some 7)] zz99),by simp⟩
  | nil =>
  have gz2:=zbn g2;rw [zy4] at g2;subst g2;refine sN ?_;refine hQ2 _ _ (zw ?_)
  (refine cL ?_;refine dLm pc ?_)
  by_cases c4:zxk (asM a) L>nTk T a
  case pos =>
   have hf:=yiy haL c4;rw [hR] at hf;subst hf;refine zac (zy10 zz0) (zw ?_);refine hQ _ _ ?_;conv=>whnf
   try rfl
  refine zab (zy11 zz0) (zw ?_)
  (try refine sG ?_)
  refine sF ?_;refine hQ _ _ ?_;conv=>whnf
  exact ⟨⟨(A++[a],B),zag g,fun b hb=>by
   rcases zy20.1 hb with hb | hb
   . exact hA b hb
   . rw [zy25] at hb;subst hb;omega⟩,(zbi []),by simp⟩
 | nil =>
 have gz:=zbn g;refine sN ?_;refine hQ _ _ ?_;conv=>whnf
 rw [zy4] at g;rw [<- g] at hA;refine ⟨{s:Nat // s<=4/\∀ j:Nat,j<s->zgt T j L 0=true},fun | ⟨s,_⟩=>hs 121 [(0,msgs T),(1,zqt L),(62,i64 s)] [],fun s=>4-s.1,⟨0,by omega,fun j hj=>by omega⟩,?_,?_⟩
 . exact (zbi [])
 rintro ⟨s,hs4,hsp⟩;refine zcd fun Q hQ=>?_
 (conv=>whnf);by_cases c5:s<4
 case neg =>
  have hf:=yvv hA fun j hj=>hsp j zz0
  rw [hR] at hf;subst hf;refine zab (zy11 zz0) (zw ?_);refine hQ _ _ ?_;conv=>whnf
  try rfl
 refine zac (zy10 zz0) (zw ?_);refine ⟨{x:(List zax×List zax)×Nat // L=x.1.1++x.1.2/\zgt T s L 0=zgt T s x.1.2 x.2/\x.2<=T.length},fun | ⟨((A,B),n),_⟩=>hs 121 [(0,msgs T),(1,zqt L),(11,i64 s),(12,i64 n),(62,i64 s),(65,zqt L),(66,i64 L.length),(67,i64 A.length)] [],fun x=>x.1.1.2.length,⟨(([],L),0),rfl,rfl,by omega⟩,?_,?_⟩
 . exact (zbi [])
 rintro ⟨⟨⟨A,B⟩,n⟩,g,hn,hnT⟩;dsimp only at g hn hnT;refine zcd fun Q2 hQ2=>?_
 (conv=>whnf);cases B with
 | nil =>
  have gz:=zbn g;refine sN ?_;refine hQ2 _ _ (zw ?_);refine sF ?_;refine hQ _ _ ?_;conv=>whnf
  exact ⟨⟨s+1,by omega,fun j hj=>by
   rcases Nat.lt_succ_iff_lt_or_eq.1 hj with hj | rfl
   . exact hsp j hj
   . exact hn⟩,(zbi []),by show 4-(s+1)<4-s;omega⟩
 | cons a B =>
 have gz:=zbe g;refine sT ?_;refine zaj g rfl (zw ?_)
 (try refine sG ?_)
 by_cases d1:a.stream=(s:Int)
 case neg =>
  have hn2:zgt T s (a::B) n=zgt T s B n:=by rw [zgt,zy1 (.inl d1)]
  refine zac (zy77.2 d1) (zw ?_);exact yy132
 refine zab (bne_eq_false_iff_eq.2 d1) (zw ?_);by_cases d2:a.ordered=false
 case pos =>
  rw [show (!a.ordered)=true by rw [d2];rfl];have hn2:zgt T s (a::B) n=zgt T s B n:=by rw [zgt,zy1 (.inr d2)]
  (conv=>whnf);exact yy132
 rw [show (!a.ordered)=false by cases h:a.ordered with | false=>exact absurd h d2 | true=>rfl];have hn2:zgt T s (a::B) n=if zrk T a n<T.length then zgt T s B (zrk T a n+1) else false:=by rw [zgt,zy0 (fun h=>h.elim (fun h=>h d1) d2)]
 conv=>whnf
 (try refine sG ?_)
 refine ⟨{k:Nat // k<=T.length/\zrk T a n=zrk T a k},fun | ⟨k,_⟩=>hs 121 [(0,msgs T),(1,zqt L),(11,i64 s),(12,i64 k),(14,.ptr 14 0),(62,i64 s),(65,zqt L),(66,i64 L.length),(67,i64 A.length)] [(14,xig a)],fun x=>T.length-x.1,⟨n,hnT,rfl⟩,?_,?_⟩
 . exact (zbi [(14,some 14)])
 rintro ⟨k,hk,hkn⟩;refine zcd fun Q3 hQ3=>?_
 (conv=>whnf);by_cases c6:k<T.length
 case neg =>
  have hkT:k=T.length:=by omega
  have hf:zgt T s L 0=false:=by rw [hn,hn2,hkn,yuu (by omega),zy0 c6]
  have hf:=xax c5 hf;rw [hR] at hf;subst hf;refine zab (zy11 zz6) (zw ?_);refine sD ?_;refine hQ3 _ _ (zw ?_);refine zac (zy15.2 zz6) (zw ?_);refine hQ2 _ _ (zw ?_);refine hQ _ _ ?_;conv=>whnf
  try rfl
 obtain ⟨m,hm⟩:∃ m,T[k]?=some m:=⟨_,zy3 c6⟩
 have d2:a.ordered=true:=by cases h:a.ordered with | false=>exact absurd h d2 | true=>rfl
 refine zac (zy10 zz6) (zw ?_);refine zam hm rfl (zw ?_);by_cases e1:m.stream=(s:Int)
 case neg =>
  rw [show (m.stream==(s:Int))=false from zy5.2 e1];(conv=>whnf);have hms:alk m.stream m.ordered m.data a.stream a.ordered a.data=false:=by unfold alk;simp [d1,e1]
  exact yy55
 rw [show (m.stream==(s:Int))=true from zy15.2 e1];(conv=>whnf);refine zam hm rfl (zw ?_);by_cases e2:m.ordered=true
 case neg =>
  rw [show m.ordered=false from Bool.eq_false_iff.2 e2];(conv=>whnf);have hms:alk m.stream m.ordered m.data a.stream a.ordered a.data=false:=by unfold alk;simp [d2,e2]
  exact yy55
 rw [e2];(conv=>whnf);refine zam hm rfl (zw ?_)
 (refine cL ?_;refine dLm (zrw m.data a.data) ?_)
 by_cases e3:m.data=a.data
 case neg =>
  rw [show decide (m.data=a.data)=false from zy11 e3];(conv=>whnf);have hms:alk m.stream m.ordered m.data a.stream a.ordered a.data=false:=by unfold alk;simp [e3]
  exact yy55
 rw [show decide (m.data=a.data)=true from zy10 e3];(conv=>whnf);have hht:alk m.stream m.ordered m.data a.stream a.ordered a.data=true:=by unfold alk;simp [e1,d1,e2,d2,e3]
 refine sD ?_;refine hQ3 _ _ (zw ?_);refine zab (zy5.2 zz6) (zw ?_)
 (try refine sG ?_)
 refine sF ?_;refine sF ?_;refine hQ2 _ _ (zw ?_);exact ⟨⟨((A++[a],B),k+1),zag g,by dsimp only;rw [hn,hn2,hkn,yuv hm hht,zy1 c6],by dsimp only;omega⟩,(zbi []),by simp⟩
end Gh
namespace Snd
open Ser
section
variable {N:Nat} {s:zah}
end
end Snd
namespace Ln
open Ser Snd
end Ln
namespace Gh
open Ser Snd Ln
theorem yim {s t:Int} {o p:Bool} {d e:List UInt8}:alk s o d t p e=true↔s=t/\o=p/\d=e:=by
 unfold alk;simp
section
variable {T:List Message} {lg:List zax} {D:List Nat}
end
theorem xgd (T:List Message) (a:zax):nTk T a<=T.length:=zy30 _ _
theorem ysg {T:List Message} {L:List zax} {a:zax} {n:Nat} (hn:T.length<n):zia T (L++List.replicate n a)=false:=by
 refine yiy (a:=a) (List.mem_append_right _ (zy127.2 ⟨by omega,rfl⟩)) ?_;have h1:=xgd T a;have ha:alk a.stream a.ordered a.data (asM a).stream (asM a).ordered (asM a).data=true:=yim.2 ⟨rfl,rfl,rfl⟩;unfold zxk;rw [zy42,zy8,List.filter_replicate,zy1 ha,zy70];omega
theorem ypb {T:List Message} {L:List zax} {a:zax} (h:∀ m∈T,m.data≠a.data):zia T (L++[a])=false:=by
 refine yiy (a:=a) zz5 ?_;have h1:nTk T a=0:=by
  unfold nTk;rw [List.length_eq_zero_iff,zy147];intro m hm;rw [yim];exact fun h2=>h m hm h2.2.2
 have ha:alk a.stream a.ordered a.data (asM a).stream (asM a).ordered (asM a).data=true:=yim.2 ⟨rfl,rfl,rfl⟩;unfold zxk;rw [zy42,zy8,zy122 (p:=fun b:zax=>alk b.stream b.ordered b.data (asM a).stream (asM a).ordered (asM a).data) ha,zy6];omega
end Gh
namespace Sch
def pick (q:List zak):List Int->Int
 | []=>-1
 | k::r=>if first q k>=0 then first q k else pick q r
theorem zvu {q:List zak}:∀ {H:List Int} {R:List Int},(∀ h∈H,¬ first q h>=0)->pick q (H++R)=pick q R
 | [],R,_=>rfl
 | h::H,R,hh=>by
  rw [zy40,pick,zy0 (hh h (by simp))];exact zvu fun x hx=>hh x zz103
theorem zxq {q:List zak} {last n:Int} (h1:0<=last) (h2:last<2 ^ 41):∀ (j k:Nat),k+j<2 ^ 41->after q last n k j=pick q ((List.range' k j).map fun i:Nat=>(last+1+(i:Int)).tmod n)
 | 0,k,_=>rfl
 | j+1,k,hk=>by
  rw [after,List.range'_succ,zy35,pick,zxq h1 h2 j (k+1) (by omega),zbu (z:=last+1) (by omega) (by omega),zbu (by omega) (by omega)]
theorem ygp {q:List zak}:∀ (j k:Nat),zgr q k j=pick q ((List.range' k j).map fun i:Nat=>(i:Int))
 | 0,k=>rfl
 | j+1,k=>by rw [zgr,List.range'_succ,zy35,pick,ygp j (k+1)]
def am (p:Nat->Bool) (had:List Int) (best:Int) (k:Nat):List Int->Int
 | []=>best
 | n::r=>if p k=true/\(best<0\/n<had[best.toNat]?.getD 0) then am p had k (k+1) r else am p had best (k+1) r
theorem zto {q:List zak} {had:List Int}:∀ (l:List Int) (best:Int) (k:Nat),zen q had best k l=am (fun k=>decide (first q k>=0)) had best k l
 | [],_,_=>rfl
 | n::r,best,k=>by
  rw [zen,am,zto r,zto r];simp only [zy43]
def Arg (p:Nat->Bool) (had:List Int) (k:Nat) (b:Int):Prop :=
 (b=-1/\∀ i:Nat,i<k->p i=false)\/∃ m:Nat,b=m/\m<k/\p m=true/\∀ i:Nat,i<k->p i=true->had[m]?.getD 0<=had[i]?.getD 0/\(i<m->had[m]?.getD 0<had[i]?.getD 0)
theorem ydo {p:Nat->Bool} {had:List Int}:∀ (j k:Nat) (b:Int),k+j=had.length->Arg p had k b->Arg p had had.length (am p had b k (had.drop k))
 | 0,k,b,h,a=>by
  rw [zy19 (by omega),am]
  rwa [show k=had.length by omega] at a
 | j+1,k,b,h,a=>by
  have hlt:k<had.length:=by omega
  have hg:had[k]?.getD 0=had[k]:=by simp [hlt]
  rw [zy18 hlt,am];split
  . rename_i c
    refine ydo j (k+1) k zz0 (.inr ⟨k,rfl,by omega,c.1,fun i hi hp=>?_⟩);rcases a with ⟨rfl,h1⟩ | ⟨m,rfl,h1,h2,h3⟩
    . have:i=k:=by
       by_cases e:i=k
       . exact e
       . have:=h1 i zz0;rw [hp] at this;cases this
      subst this;exact ⟨zy75 _,fun h=>by omega⟩
    . rcases c.2 with c2 | c2
      . omega
      rw [zy22] at c2;by_cases e:i=k
      . subst e;exact ⟨zy75 _,fun h=>by omega⟩
      . have:=h3 i zz0 hp
        rw [hg];omega
  . rename_i c
    refine ydo j (k+1) b zz0 ?_;rcases a with ⟨rfl,h1⟩ | ⟨m,rfl,h1,h2,h3⟩
    . refine .inl ⟨rfl,fun i hi=>?_⟩
      by_cases e:i=k
      . subst e
        cases hp:p i with
        | false=>rfl
        | true=>exact absurd ⟨hp,.inl zz4⟩ c
      . exact h1 i zz0
    . refine .inr ⟨m,rfl,by omega,h2,fun i hi hp=>?_⟩
      by_cases e:i=k
      . subst e
        have:¬ had[i]<had[m]?.getD 0:=fun h=>c ⟨hp,.inr (by rw [zy22];exact h)⟩
        rw [hg];omega
      . exact h3 i zz0 hp
theorem yse {p:Nat->Bool} {had:List Int} {n:Nat} {b b':Int} (h:Arg p had n b) (h':Arg p had n b'):b=b':=by
 rcases h with ⟨rfl,h1⟩ | ⟨m,rfl,h1,h2,h3⟩<;>rcases h' with ⟨rfl,h4⟩ | ⟨m',rfl,h4,h5,h6⟩
 . rfl
 . rw [h1 m' h4] at h5;cases h5
 . rw [h4 m h1] at h2;cases h2
 . have h7:=h3 m' h4 h5
   have h8:=h6 m h1 h2;by_cases e:m=m'
   . rw [e]
   . rcases zy144 e with e | e
     . have:=h8.2 e;omega
     . have:=h7.2 e;omega
def ykc (had:List Int) (H:List Int):Int:=am (fun k=>decide ((k:Int)∉H)) had (-1) 0 had
def zqx (had:List Int):Nat->List Int->List Int
 | 0,H=>H
 | j+1,H=>zqx had j (H++[ykc had H])
theorem yef {had:List Int}:∀ (j:Nat) (H:List Int),∃ R,zqx had j H=H++R
 | 0,H=>⟨[],by simp [zqx]⟩
 | j+1,H=>by
  obtain ⟨R,h⟩:=yef (had:=had) j (H++[ykc had H]);exact ⟨ykc had H::R,by rw [zqx,h];simp⟩
theorem yee {had:List Int}:∀ (j:Nat) (H:List Int),(zqx had j H).length=H.length+j
 | 0,H=>rfl
 | j+1,H=>by rw [zqx,yee j];simp;omega
theorem ysd:∀ (n:Nat) (H:List Int),(∀ i:Nat,i<n->(i:Int)∈H)->n<=H.length
 | 0,_,_=>zy107 _
 | n+1,H,h=>by
  have h1:=ysd n (H.erase (n:Int)) fun i hi=>(List.mem_erase_of_ne zz0).2 (h i zz0)
  have h2:(n:Int)∈H:=h n zz0;rw [List.length_erase_of_mem h2] at h1;have:=List.length_pos_of_mem h2;omega
theorem yut (had H:List Int):Arg (fun k=>decide ((k:Int)∉H)) had had.length (ykc had H):=by
 have:=ydo (p:=fun k=>decide ((k:Int)∉H)) (had:=had) had.length 0 (-1) zz0 (.inl ⟨rfl,fun i hi=>by omega⟩);exact this
theorem yeg {s:zhr} {q:List zak}:∀ (j:Nat) (H:List Int),H.length+j=s.had.length->((List.range s.had.length).filter fun i:Nat=>decide ((i:Int)∉H)).length<=j->(∀ h∈H,¬ first q h>=0) ->
 pick q (zqx s.had j H)=least s q
 | 0,H,h1,h2,h3=>by
  have hall:∀ i:Nat,i<s.had.length->(i:Int)∈H:=fun i hi=>by
   have h4:(List.range s.had.length).filter (fun i:Nat=>decide ((i:Int)∉H))=[]:=zy14 zz0;rw [zy147] at h4
   simpa using h4 i (by simpa using hi)
  have ha:Arg (fun k=>decide (first q k>=0)) s.had s.had.length (-1):=.inl ⟨rfl,fun i hi=>by simpa using h3 _ (hall i hi)⟩;have hl:=ydo (p:=fun k=>decide (first q k>=0)) (had:=s.had) s.had.length 0 (-1) zz0 (.inl ⟨rfl,fun i hi=>by omega⟩);have he:=yse ha hl;have h5:=zvu (R:=[]) h3;rw [zy4] at h5;rw [zqx,h5,pick,least,zto];show _=if am _ s.had (-1) 0 s.had<0 then _ else _
  rw [show am (fun k=>decide (first q k>=0)) s.had (-1) 0 s.had=-1 from he.symm,zy1 (by decide)]
 | j+1,H,h1,h2,h3=>by
  rw [zqx];have hn:=yut s.had H;generalize ykc s.had H=b at hn ⊢;have hn':=hn;rcases hn' with ⟨rfl,g1⟩ | ⟨m,rfl,g1,g2,g3⟩
  . have:=ysd s.had.length H fun i hi=>by simpa using g1 i hi
    omega
  by_cases c:first q m>=0
  . have ha:Arg (fun k=>decide (first q k>=0)) s.had s.had.length m:=.inr ⟨m,rfl,g1,by simpa using c,fun i hi hp=>g3 i hi (by
     have hp:first q i>=0:=by simpa using hp
     have:(i:Int)∉H:=fun hc=>h3 _ hc hp
     simpa using this)⟩
    have hl:=ydo (p:=fun k=>decide (first q k>=0)) (had:=s.had) s.had.length 0 (-1) zz0 (.inl ⟨rfl,fun i hi=>by omega⟩);have he:=yse ha hl;obtain ⟨R,hR⟩:=yef (had:=s.had) j (H++[(m:Int)]);rw [hR,zy27,zvu h3];show (if first q m>=0 then first q m else _)=_;rw [zy1 c,least,zto];show _=if am _ s.had (-1) 0 s.had<0 then _ else first q (am _ s.had (-1) 0 s.had)
    rw [show am (fun k=>decide (first q k>=0)) s.had (-1) 0 s.had=m from he.symm,zy0 (by omega)]
  . have g2:(m:Int)∉H:=by simpa using g2
    refine yeg j (H++[(m:Int)]) zz3 ?_ fun h hh=>?_
    . have e:(List.range s.had.length).filter (fun i:Nat=>decide ((i:Int)∉H++[(m:Int)]))=((List.range s.had.length).filter fun i:Nat=>decide ((i:Int)∉H)).filter fun i:Nat=>decide (i≠m):=by
       rw [List.filter_filter];refine List.filter_congr fun i _=>?_
       by_cases e1:i=m<;>by_cases e2:(i:Int)∈H<;>simp [e1,e2]<;>omega
      rw [e];have:=(List.length_filter_lt_length_iff_exists (p:=fun i:Nat=>decide (i≠m)) (l:=(List.range s.had.length).filter fun i:Nat=>decide ((i:Int)∉H))).2 ⟨m,by simp [g1,g2],by simp⟩;omega
    . rcases zy20.1 hh with hh | hh
      . exact h3 h hh
      . rw [zy25] at hh;subst hh;exact c
def mark (H:List Int) (b:Int):List Int:=if b∈H then H else H++[b]
def keys (O:List Int):List Int:=O.foldl mark []
theorem yug (O:List Int) (b:Int):keys (O++[b])=mark (keys O) b:=by simp [keys]
theorem yzj {H:List Int} {b x:Int}:x∈mark H b↔x∈H\/x=b:=by
 unfold mark;split
 . rename_i h
   exact ⟨.inl,fun h'=>h'.elim id fun e=>e ▸ h⟩
 . simp
theorem ynj:∀ (O:List Int) (H:List Int) (x:Int),x∈O.foldl mark H↔x∈H\/x∈O
 | [],H,x=>by simp
 | b::O,H,x=>by rw [zy52,ynj O,yzj,zy13,or_assoc]
theorem mem_keys {O:List Int} {x:Int}:x∈keys O↔x∈O:=by rw [keys,ynj];simp
def ent (n:Int):Value×List PV:=(.int .i64 n,[pb true])
theorem yme (b:Int):∀ H:List Int,yar (H.map ent) (.int .i64 b)=if b∈H then some [pb true] else none
 | []=>rfl
 | x::H=>by
  rw [zy35,ent,yar,yme b H];by_cases e:b=x
  . subst e;simp [zti]
  . have:zti (.int .i64 b) (.int .i64 x)=false:=by simpa [zti] using e
    rw [this];simp [e]
theorem yvs (b:Int):∀ H:List Int,xak (H.map ent) (.int .i64 b) [pb true]=(mark H b).map ent
 | []=>rfl
 | x::H=>by
  rw [zy35,show ent x=(.int .i64 x,[pb true]) from rfl,xak,yvs b H];by_cases e:b=x
  . subst e;simp [zti,mark,ent]
  . have:zti (.int .i64 b) (.int .i64 x)=false:=by simpa [zti] using e
    rw [this];unfold mark;by_cases e2:b∈H
    . simp [e,e2,ent]
    . simp [e,e2,ent]
theorem znk (q:List zak) (stream:Int) (hb:q.length<2 ^ 62):zan Tryz.prog 168 [qs q,i64 stream] zad (i64 (first q stream)) zad:=by
 refine zal mixed Tryz.func168 zz4 ?_;(conv=>whnf);refine ⟨{k:Nat // k<=q.length/\zch (fun m:zak=>m.message.stream==stream) k (q.drop k)=first q stream},fun | ⟨k,_⟩=>hs 21 [(1,i64 stream),(7,qs q),(8,i64 q.length),(9,i64 k)] [],fun k=>q.length-k.1,⟨0,by simp [first]⟩,?_,?_⟩
 . exact (zbi [])
 rintro ⟨k,hk,hi⟩;(conv=>whnf);by_cases c:k<q.length
 . rw [zy18 c] at hi
   simp only [zch] at hi;refine sT ?_;refine zbz k rfl c (zw ?_);refine zaf (fun h=>?_) (fun h=>?_)
   . conv=>whnf
     rw [zy1 h] at hi;rw [<- hi]
   . conv=>whnf
     rw [zy0 (by rw [h];decide)] at hi;refine sF ?_;exact ⟨⟨k+1,c,hi⟩,(zbi []),by dsimp only;omega⟩
 . rw [zy19 (by omega)] at hi
   refine sN ?_;rw [<- hi];rfl
theorem xfu (s:zhr) (m:zak) (bytes:Int) (zxl:Bool):(s.had.mapIdx fun k n=>if (k:Int)=m.message.stream then W (n+bytes) else n)=(had s m bytes zxl).had:=by
 unfold had;dsimp only;apply List.ext_getElem
 . split<;>simp
 . intro i h1 h2
   have hi:i<s.had.length:=by simpa using h1
   rw [List.getElem_mapIdx];split
   . rename_i e
     have hm:0<=m.message.stream/\m.message.stream<s.had.length:=by omega
     simp only [zy1 hm];rw [List.getElem_set];rw [zy1 (by omega),show m.message.stream.toNat=i by omega];simp [hi]
   . rename_i e
     by_cases hm:0<=m.message.stream/\m.message.stream<s.had.length
     . simp only [zy1 hm]
       rw [List.getElem_set,zy0 (by omega)]
     . simp only [zy0 hm]
abbrev yvz (l:List Int):zai:=.live (.row 3 1 (l.map fun n=>[pi n]))
theorem yxa (s:zhr) (m:zak) (bytes:Int) (zxl:Bool) (hb:s.had.length<2 ^ 40):zan Tryz.prog 143 [s.hv,m.hv,i64 bytes,zbj zxl] zad (had s m bytes zxl).hv zad:=by
 refine zal mixed Tryz.func143 zz4 ?_;have hf:=xfu s m bytes zxl;generalize hT:had s m bytes zxl=T at hf;have h1:T.last=m.message.stream:=by rw [<- hT];rfl
 have h2:T.hand=if zxl then -1 else m.id:=by rw [<- hT];rfl
 obtain ⟨a1,a2,a3⟩:=T;dsimp only at h1 h2 hf;subst h1;rw [<- hf,h2];clear hT hf h2;cases zxl
 all_goals
  conv=>whnf
  repeat refine sG ?_
 . refine ⟨{x:List Int×List Int // s.had=x.1++x.2},fun | ⟨(a,b),_⟩=>hs 44 [(2,i64 bytes),(5,.ptr 5 0),(8,.ptr 8 0),(9,.ptr 9 0),(21,ints s.had),(22,i64 s.had.length),(23,i64 a.length)] [(5,.live (.cells 117 m.cells)),(8,.live (.cells 28 [i64 0,i64 0,zee])),(9,.live (.cells 28 [i64 m.message.stream,i64 m.id,.own 900])),(900,yvz (a.mapIdx fun k n=>if (k:Int)=m.message.stream then W (n+bytes) else n))],fun x=>x.1.2.length,⟨([],s.had),rfl⟩,?_,?_⟩
   . exact (zbi [(5,some 5),(8,some 8),(9,some 9),(900,none)])
   exact yy11
 . refine ⟨{x:List Int×List Int // s.had=x.1++x.2},fun | ⟨(a,b),_⟩=>hs 44 [(2,i64 bytes),(5,.ptr 5 0),(8,.ptr 8 0),(9,.ptr 9 0),(21,ints s.had),(22,i64 s.had.length),(23,i64 a.length)] [(5,.live (.cells 117 m.cells)),(8,.live (.cells 28 [i64 0,i64 0,zee])),(9,.live (.cells 28 [i64 m.message.stream,i64 (-1),.own 900])),(900,yvz (a.mapIdx fun k n=>if (k:Int)=m.message.stream then W (n+bytes) else n))],fun x=>x.1.2.length,⟨([],s.had),rfl⟩,?_,?_⟩
   . exact (zbi [(5,some 5),(8,some 8),(9,some 9),(900,none)])
   exact yy11
theorem yrd (turns:Int) (s:zhr) (q:List zak) (h9:s.had.length<2 ^ 36) (hb:q.length<2 ^ 60) (hl:0<s.had.length->0<=s.last/\s.last<s.had.length):zan Tryz.prog 142 [i64 turns,s.hv,qs q] zad (i64 (next turns s q)) zad:=by
 refine zal mixed Tryz.func142 zz4 ?_;have hb:q.length<2 ^ 62:=by omega
 have hl1:(s.had.map fun n=>[pi n]).length=s.had.length:=by simp
 (conv=>whnf);by_cases c1:(q.length:Int)=0
 . rw [next,zy1 c1]
   refine zac zz39 ?_;conv=>whnf
   repeat refine sG ?_
 rw [next,zy0 c1];refine zab zz39 (zw ?_);by_cases c2:(s.had.length:Int)=0
 . rw [zy1 c2]
   refine zac zz29 ?_;conv=>whnf
   repeat refine sG ?_
 rw [zy0 c2];obtain ⟨g1,g2⟩:=hl zz0;have hafter:=zxq (q:=q) (last:=s.last) (n:=s.had.length) g1 zz0 s.had.length 0 zz0;refine zab zz29 (zw ?_)
 repeat refine sG ?_
 by_cases c3:turns=2
 . subst c3
   rw [zy1 rfl];(conv=>whnf)
   repeat refine sG ?_
   refine ⟨{k:Nat // k<=q.length/\zch (fun m:zak=>m.id==s.hand) k (q.drop k)=zpr s q},fun | ⟨k,_⟩=>hs 127 [(0,i64 2),(2,qs q),(4,.ptr 4 0),(7,i64 s.had.length),(31,qs q),(32,i64 q.length),(33,i64 k)] [(4,.live (.cells 28 s.cells))],fun k=>q.length-k.1,⟨0,by simp [zpr]⟩,?_,?_⟩
   . exact (zbi [(4,some 4)])
   rintro ⟨k,hk,hi⟩;refine zcd fun Q hQ=>?_
   (conv=>whnf);by_cases c:k<q.length
   . rw [zy18 c] at hi
     simp only [zch] at hi;refine sT ?_;refine zbz k rfl c (zw ?_);refine zaf (fun h=>?_) (fun h=>?_)
     . conv=>whnf
       rw [zy1 h] at hi;refine hQ _ _ ?_;conv=>whnf
       rw [zy1 (show zpr s q>=0 by rw [<- hi];omega),<- hi]
     . conv=>whnf
       rw [zy0 (by rw [h];decide)] at hi
       (try refine sG ?_)
       refine sF ?_;refine hQ _ _ ?_;conv=>whnf
       exact ⟨⟨k+1,c,hi⟩,(zbi [(4,some 4)]),by dsimp only;omega⟩
   . rw [zy19 (by omega)] at hi
     refine sN ?_;refine hQ _ _ ?_;conv=>whnf
     rw [zy0 (show ¬ zpr s q>=0 by rw [<- hi];simp [zch])];exact yy7
 rw [zy0 c3];refine zab zz87 (zw ?_)
 repeat refine sG ?_
 refine zab zz87 (zw ?_)
 repeat refine sG ?_
 by_cases c4:turns=3
 . subst c4
   rw [zy1 rfl];(conv=>whnf);exact yy7
 rw [zy0 c4];refine zab zz117 (zw ?_)
 repeat refine sG ?_
 by_cases c5:turns=4
 . subst c5
   rw [zy1 rfl,ygp];(conv=>whnf)
   repeat refine sG ?_
   refine ⟨{k:Nat // k<=s.had.length},fun | ⟨k,_⟩=>hs 127 [(2,qs q),(10,.own 900),(65,i64 s.had.length),(66,i64 k)] [(900,yvz ((List.range' 0 k).map fun i:Nat=>(i:Int)))],fun k=>s.had.length-k.1,⟨0,by omega⟩,?_,?_⟩
   . exact (zbi [(900,none)])
   rintro ⟨k,hk⟩;refine zcd fun Q hQ=>?_
   (conv=>whnf);by_cases c:k<s.had.length
   . refine sT ?_
     refine zaa (c:=((((List.range' 0 k).map fun i:Nat=>(i:Int)).map fun n=>[pi n]).length+1)*8<=140737488355328) zz3 (zw ?_)
     (try refine sG ?_)
     refine sF ?_;refine hQ _ _ ?_;conv=>whnf
     exact ⟨⟨k+1,c⟩,(zaz [(900,some 72)] (by repeat' (first | exact z0 | refine z1 ?_ | refine ⟨?_,?_⟩ | ((exact zbc (f:=fun n=>[pi n]) (x:=(k:Int)) (by rw [List.range'_concat];simp) rfl)) | exact z2))),by dsimp only;omega⟩
   . refine sN ?_
     refine hQ _ _ ?_;conv=>whnf
     have hkk:k=s.had.length:=by omega
     subst hkk;obtain ⟨O,hO⟩:∃ O,O=((List.range' 0 s.had.length).map fun i:Nat=>(i:Int)):=⟨_,rfl⟩
     rw [<- hO];generalize hN:pick q O=N;have hOl:O.length=s.had.length:=by rw [hO];simp
     refine ⟨{x:List Int×List Int // (O)=x.1++x.2/\pick q x.2=N},fun | ⟨(a,b),_⟩=>hs 127 [(2,qs q),(114,.own 900),(115,i64 (O).length),(116,i64 a.length)] [(900,yvz (O))],fun x=>x.1.2.length,⟨([],O),rfl,hN⟩,?_,?_⟩
     . exact (zaz [(900,some 900)] zz40)
     exact yy9
 rw [zy0 c5];refine zab (by simpa using c5) (zw ?_)
 repeat refine sG ?_
 by_cases c6:turns=5
 . subst c6
   rw [zy1 rfl,<- yeg s.had.length [] (by simp) (by simpa using zy30 _ (List.range s.had.length)) (by simp)];(conv=>whnf)
   repeat refine sG ?_
   obtain ⟨O,hO⟩:∃ O,O=zqx s.had s.had.length []:=⟨_,rfl⟩
   rw [<- hO];generalize hN:pick q O=N;have hOl:O.length=s.had.length:=by rw [hO,yee];simp
   refine ⟨{x:Nat×List Int // x.1<=s.had.length/\x.2.length=x.1/\zqx s.had (s.had.length-x.1) x.2=O},fun | ⟨(j,H),_⟩=>hs 127 [(2,qs q),(4,.ptr 4 0),(7,i64 s.had.length),(10,.own 900),(13,.mp 901),(77,i64 s.had.length),(78,i64 j)] [(4,.live (.cells 28 s.cells)),(900,yvz H),(901,.live (.map 4 false ((keys H).map ent)))],fun x=>s.had.length-x.1.1,⟨(0,[]),by dsimp only;omega,rfl,by dsimp only;rw [hO];rfl⟩,?_,?_⟩
   . exact (zbi [(4,some 4),(900,none),(901,some 76)])
   rintro ⟨⟨j,H⟩,h1,h2,h3⟩;dsimp only at h1 h2 h3;refine zcd fun Q0 hQ0=>?_
   (conv=>whnf);by_cases c:j<s.had.length
   . obtain ⟨d,hd⟩:∃ d,s.had.length-j=d+1:=⟨s.had.length-j-1,by omega⟩
     have hd2:s.had.length-(j+1)=d:=by omega
     rw [hd,zqx] at h3;refine sT ?_;refine ⟨{x:Nat×Int // x.1<=s.had.length/\(x.2<0\/x.2<x.1)/\am (fun k=>decide ((k:Int)∉H)) s.had x.2 x.1 (s.had.drop x.1)=ykc s.had H},fun | ⟨(k,b),_⟩=>hs 127 [(2,qs q),(4,.ptr 4 0),(7,i64 s.had.length),(10,.own 900),(13,.mp 901),(77,i64 s.had.length),(78,i64 j),(14,i64 b),(80,i64 s.had.length),(81,i64 k)] [(4,.live (.cells 28 s.cells)),(900,yvz H),(901,.live (.map 4 false ((keys H).map ent)))],fun x=>s.had.length-x.1.1,⟨(0,-1),by dsimp only;omega,.inl zz81,rfl⟩,?_,?_⟩
     . exact (zbi [(4,some 4),(900,some 900),(901,some 901)])
     rintro ⟨⟨k,b⟩,g1,g2,g3⟩;dsimp only at g1 g2 g3;refine zcd fun Q hQ=>?_
     (conv=>whnf);by_cases c7:k<s.had.length
     . rw [zy18 c7,am] at g3
       refine sT ?_;have hf:=yme (k:Int) (keys H);by_cases c8:(k:Int)∈H
       . rw [zy1 (mem_keys.2 c8)] at hf
         rw [zy0 (by simp [c8])] at g3;refine ⟨_,hf.symm,zw ?_⟩;refine sD ?_
         (try refine sG ?_)
         refine sF ?_;refine hQ _ _ ?_;conv=>whnf
         exact ⟨⟨(k+1,b),c7,by dsimp only;omega,g3⟩,(zbi [(4,some 4),(900,some 900),(901,some 901)]),by dsimp only;omega⟩
       . rw [zy0 (fun h=>c8 (mem_keys.1 h))] at hf
         refine ⟨_,hf.symm,zw ?_⟩;by_cases c9:b<0
         . rw [zy1 ⟨by simp [c8],.inl c9⟩] at g3
           refine zac (by simpa using c9) (zw ?_);refine sD ?_;exact yy106
         . obtain ⟨m,hbm⟩:∃ m:Nat,b=m:=⟨b.toNat,by omega⟩
           have hm:m<s.had.length:=by omega
           have hg:s.had[m]?.getD 0=s.had[m]:=by simp [hm]
           rw [show b.toNat=m by omega,hg] at g3;refine zab (by simpa using c9) (zw ?_);refine zbz k rfl c7 (zw ?_);refine zbz m hbm hm (zw ?_);refine sD ?_;by_cases c10:s.had[k]<s.had[m]
           . rw [zy1 ⟨by simp [c8],.inr c10⟩] at g3
             refine zac (by simpa using c10) (zw ?_);exact yy106
           . rw [zy0 (fun h=>h.2.elim c9 c10)] at g3
             refine zab (by simpa using c10) (zw ?_)
             (try refine sG ?_)
             refine sF ?_;refine hQ _ _ ?_;conv=>whnf
             exact ⟨⟨(k+1,b),c7,.inr zz81,g3⟩,(zbi [(4,some 4),(900,some 900),(901,some 901)]),by dsimp only;omega⟩
     . rw [zy19 (by omega),am] at g3
       subst g3;refine sN ?_;refine hQ _ _ ?_;conv=>whnf
       refine ⟨_,(yvs _ _).symm,zw ?_⟩;refine zaa (c:=((H.map fun n=>[pi n]).length+1)*8<=140737488355328) zz3 (zw ?_)
       (try refine sG ?_)
       refine sF ?_;refine hQ0 _ _ (zw ?_);exact ⟨⟨(j+1,H++[ykc s.had H]),c,by simp [h2],by dsimp only;rw [hd2];exact h3⟩,(zaz [(4,some 4),(900,some 112),(901,some 901)] (by repeat' (first | exact z0 | refine z1 ?_ | refine ⟨?_,?_⟩ | ((exact zbc (f:=fun n=>[pi n]) rfl rfl)) | ((simp [yug])) | exact z2))),by dsimp only;omega⟩
   . have hjj:j=s.had.length:=by omega
     subst hjj;rw [zy95,zqx] at h3;refine sN ?_;refine hQ0 _ _ (zw ?_);refine ⟨{x:List Int×List Int // (O)=x.1++x.2/\pick q x.2=N},fun | ⟨(a,b),_⟩=>hs 127 [(2,qs q),(114,.own 900),(115,i64 (O).length),(116,i64 a.length)] [(900,yvz (O))],fun x=>x.1.2.length,⟨([],O),rfl,hN⟩,?_,?_⟩
     . exact (zaz [(900,some 900)] (by repeat' (first | exact z0 | refine z1 ?_ | refine ⟨?_,?_⟩ | ((exact zbk (by rw [<- h3];simp))) | ((exact zar (by rw [h3]))) | exact z2)))
     exact yy9
 rw [zy0 c6];refine zab (by simpa using c6) ?_;conv=>whnf
end Sch
namespace Sco
open Ser
end Sco
namespace Sco
open Ser
theorem yhu (l:List zbo) (path:Int) (hl:zeu l):zan Tryz.prog 46 [zdy l,i64 path] zad (i64 (fl path l)) zad:=by
 obtain ⟨hl1,hl2⟩:=hl;refine zal mixed Tryz.func46 zz4 ?_;(conv=>whnf);refine ⟨{x:List zbo×List zbo // l=x.1++x.2},fun | ⟨(a,b),_⟩=>hs 31 [(1,i64 path),(5,i64 (fl path a)),(8,zdy l),(9,i64 l.length),(10,i64 a.length)] [],fun x=>x.1.2.length,⟨([],l),rfl⟩,?_,?_⟩
 . exact (zbi [])
 rintro ⟨⟨a,b⟩,h⟩;dsimp only at h;cases b with
 | nil =>
  have hz:=zbn h;(conv=>whnf);refine sN ?_;rw [h,zy4]
 | cons s b =>
  have hz:=zbe h;have hf:=yyj path a;rw [h,zhq,zgi] at hl2;have e1:=ymh path a [s];rw [zuy] at e1;(conv=>whnf);refine sT ?_
  (try refine sG ?_)
  refine zaj h rfl (zw ?_);refine zaf (fun c1=>?_) (fun c1=>?_)
  . conv=>whnf
    refine zaf (fun c2=>?_) (fun c2=>?_)
    . conv=>whnf
      rw [zy1 ⟨by simpa using c2,by simpa using c1⟩] at e1;refine sF ?_;refine sF ?_;exact ⟨⟨(a++[s],b),zag h⟩,(zaz [] zz20),by simp⟩
    . conv=>whnf
      rw [zy0 (by rintro ⟨h1,h2⟩;simp [h1] at c2)] at e1;refine sF ?_;exact ⟨⟨(a++[s],b),zag h⟩,(zaz [] zz20),by simp⟩
  . conv=>whnf
    rw [zy0 (by rintro ⟨h1,h2⟩;simp [h2] at c1)] at e1;refine sF ?_;exact ⟨⟨(a++[s],b),zag h⟩,(zaz [] zz20),by simp⟩
theorem yre (l:List zbo) (cum:Int) (c:Chunk) (paths:Int) (hl:zeu l) (hr:yik l cum paths) (hsp:c.zas.length<2 ^ 60) :
 zan Tryz.prog 84 [zdy l,i64 cum,c.hv,i64 paths] zad (.tup [zdy (zix l cum c paths).1,i64 (zix l cum c paths).2.1,ints (zix l cum c paths).2.2.1,ints (zix l cum c paths).2.2.2]) zad:=by
 have hl1:=hl.len;have hp0:=hr.p0;have hp1:=hr.p1;have hc0:=hr.c0;have hc1:=hr.c1;refine zal mixed Tryz.func84 zz4 ?_;have hn:=ziv (a:=cum) (t:=c.tag) zz0 zz0;rw [zix];have hsr:=zkm cum c.tag zz0 zz0;generalize hN:zdd cum c.tag=n at hn hsr ⊢;have e21:zai.live (.row 3 1 (List.replicate paths.toNat [pi 0]))=ybh (List.replicate paths.toNat 0):=by
  rw [ybh,zy73]
 (conv=>whnf);refine zaa (c:=0<=paths/\paths=paths/\paths*8<=140737488355328) zz0 ?_;(conv=>whnf)
 (refine cL ?_;refine dL hsr ?_)
 by_cases k1:n<cum\/n>cum+l.length
 . rw [zy1 k1]
   by_cases k2:n<cum
   . refine sT ?_
     exact yy101
   . refine sN ?_
     refine zaq (z:=cum+((l.map zbo.row).length:Int)) (zbu zz6 zz6) (zw ?_);refine sT ?_;exact yy101
 . rw [zy0 k1]
   refine sN ?_;refine zaq (z:=cum+((l.map zbo.row).length:Int)) (zbu zz6 zz6) (zw ?_);refine sN ?_;refine ⟨{x:List zbo×List zbo×List zbo×List Int×Int // SI l c n paths.toNat cum x},fun | ⟨(a,b,out,zhf,high),_⟩=>hs 136 [(1,i64 cum),(6,.ptr 6 0),(12,.own 900),(13,i64 n),(14,.own 901),(15,i64 high),(43,zdy l),(44,i64 l.length),(45,i64 a.length)] [(6,.live (.cells 61 c.cells)),(900,ybh zhf),(901,ziy out)],fun x=>x.1.2.1.length,⟨([],l,[],List.replicate paths.toNat 0,0),rfl,rfl,rfl,rfl,zy75 _,by dsimp only;simp;omega⟩,?_,?_⟩
   . exact (zaz [(6,some 6),(900,some 24),(901,none)] (by repeat' (first | exact z0 | refine z1 ?_ | refine ⟨?_,?_⟩ | (exact e21) | exact z2)))
   rintro ⟨⟨a,b,out,zhf,high⟩,hi⟩;have h:=hi.split;dsimp only at h;cases b with
   | nil =>
    have hz:=zbn h;obtain ⟨h1,h2,h3,h4,h5,h6⟩:=hi;dsimp only at h1 h2 h3 h4 h5 h6;rw [zy4] at h1;subst h1;rw [<- h3,<- h4,<- h2];have hlen:out.length<=l.length:=by rw [h2,left,zy2];exact zy30 _ _
    (conv=>whnf);refine sN ?_;refine ⟨{x:List zbo×List zbo // out=x.1++x.2},fun | ⟨(a,b),_⟩=>hs 136 [(12,.own 900),(13,i64 n),(15,i64 high),(19,.own 902),(20,.own 903),(99,.own 901),(100,i64 out.length),(101,i64 a.length)] [(900,ybh zhf),(901,ziy out),(902,ziy (a.map (age high))),(903,ybh (lost high a))],fun x=>x.1.2.length,⟨([],out),rfl⟩,?_,?_⟩
    . exact (zbi [(900,some 900),(901,some 901),(902,none),(903,none)])
    rintro ⟨⟨a,b⟩,h⟩;dsimp only at h;cases b with
    | nil =>
     have hz:=zbn h;rw [zy4] at h;subst h;(conv=>whnf)
     ((refine yyn ?_;conv=>whnf);try refine sG ?_)
     try rfl
    | cons s b =>
     have hz:=zbe h;have ea:(a++[s]).map (age high)=a.map (age high)++[age high s]:=by simp
     have el:lost high (a++[s])=lost high a++lost high [s]:=by simp [lost]
     have hln:(lost high a).length<=a.length:=by rw [lost,zy2];exact zy30 _ _
     (conv=>whnf);refine sT ?_;refine sO ?_;refine zaj h rfl (zw ?_)
     (try refine sG ?_)
     by_cases c1:s.state=1
     . refine sT ?_
       by_cases c2:s.number<high
       . refine sT ?_
         refine sR ?_;by_cases c3:W (s.missed+1)>=3
         . have e1:age high s={s with missed:=W (s.missed+1),state:=3}:=by rw [age,zy1 ⟨c1,c2⟩,zy1 c3]
           have e2:lost high [s]=[s.number]:=by simp [lost,c1,c2,c3]
           refine sT ?_;refine zaa (c:=(((lost high a).map fun n=>[pi n]).length+1)*8<=140737488355328) zz6 (zw ?_);refine zaa (c:=(((a.map (age high)).map zbo.row).length+1)*200<=140737488355328) om (zw ?_);refine sF ?_;exact ⟨⟨(a++[s],b),zag h⟩,(zaz [(900,some 900),(901,some 901),(902,some 130),(903,some 126)] (by repeat' (first | exact z0 | refine z1 ?_ | refine ⟨?_,?_⟩ | ((refine zbc (f:=zbo.row) ea ?_;rw [e1];rfl)) | ((rw [el,e2];exact (zej (f:=fun n=>[pi n]) rfl).symm)) | exact z2))),by simp⟩
         . have e1:age high s={s with missed:=W (s.missed+1)}:=by rw [age,zy1 ⟨c1,c2⟩,zy0 c3]
           have e2:lost high [s]=[]:=by simp [lost,c1,c2,c3]
           exact yy36
       . have e1:age high s=s:=by rw [age,zy0 fun h=>c2 h.2]
         have e2:lost high [s]=[]:=by simp [lost,c2]
         exact yy36
     . have e1:age high s=s:=by rw [age,zy0 fun h=>c1 h.1]
       have e2:lost high [s]=[]:=by simp [lost,c1]
       exact yy36
   | cons s b =>
    have hz:=zbe h;obtain ⟨hnum,hpa0,hpa1⟩:=hr.at h;have hnx:=hi.next hnum hc0;have hhi:=hi.h1;have hh0:=hi.h0;have hcl:=hi.zhf;have hol:out.length<=a.length:=by have:=hi.out;dsimp only at this;rw [this,left,zy2];exact zy30 _ _
    dsimp only at hhi hh0 hcl;have hcl:zhf.length=paths.toNat:=by rw [hcl,zmx]
    have hby:=hl.bytes;rw [h,zhq,zgi] at hby;have eA:zai.live (.row 3 1 ((zhf.map fun n=>[pi n]).set s.path.toNat [pi (W (zhf[s.path.toNat]'zz0+((s.chunk.data.map zcp).length:Int)))]))=ybh (zzy zhf s.path s.chunk.data.length):=by
     rw [zzy,ybh,zy61,zy3 (by omega),zy116,zy2]
    (conv=>whnf);refine sT ?_;refine zaj h rfl (zw ?_);by_cases g:s.number<=n
    . have hk:here c n s=true:=by rw [here];simp [g]
      refine sT ?_;by_cases q:s.state=1\/s.state=3
      . have hcm:comes c n s=true:=by rw [comes,hk,zy96];rcases q with q | q<;>rw [q]<;>rfl
        rw [zy0 (by omega),zob,zy1 hcm,zof,zy1 hcm,zy4] at hnx;by_cases q1:s.state=1
        . refine sT ?_
          exact yy78
        . refine sN ?_
          refine sT ?_;exact yy78
      . have hcm:comes c n s=false:=by
         rw [comes,hk,zy96];simp only [not_or] at q;simp [q.1,q.2]
        rw [zy0 (by omega),zob,zy0 (by rw [hcm];decide),zof,zy0 zz94,zy4] at hnx;have q1:s.state≠1:=fun h=>q (.inl h)
        have q2:s.state≠3:=fun h=>q (.inr h)
        refine sN ?_;refine sN ?_;refine sN ?_;refine sF ?_;exact ⟨⟨_,hnx⟩,(zaz [(6,some 6),(900,some 900),(901,some 901)] zz13),by simp⟩
    . refine sN ?_
      refine sR ?_
      (refine cL ?_;refine dL (ykr c.zas _ zz0) ?_)
      by_cases hh:has c.zas (W (s.number-n))=true
      . have hk:here c n s=true:=by rw [here,hh];simp
        refine zac hh (zw ?_)
        (try refine sG ?_)
        by_cases q:s.state=1\/s.state=3
        . have hcm:comes c n s=true:=by rw [comes,hk,zy96];rcases q with q | q<;>rw [q]<;>rfl
          rw [zy1 (by omega),zob,zy1 hcm,zof,zy1 hcm,zbp,zy1 hcm] at hnx;by_cases q1:s.state=1
          . refine sT ?_
            refine sO ?_;refine zbz s.path.toNat zz0 zz0 (zw ?_);refine sR ?_;refine sO ?_;refine zbz s.path.toNat zz0 zz0 (zw ?_);refine sD ?_;exact yy44
          . refine sN ?_
            refine sT ?_;refine sO ?_;refine zbz s.path.toNat zz0 zz0 (zw ?_);refine sR ?_;refine sO ?_;refine zbz s.path.toNat zz0 zz0 (zw ?_);refine sD ?_;exact yy44
        . have hcm:comes c n s=false:=by
           rw [comes,hk,zy96];simp only [not_or] at q;simp [q.1,q.2]
          rw [zy1 (by omega),zob,zy0 (by rw [hcm];decide),zof,zy0 zz94,zbp,zy0 zz94] at hnx;have q1:s.state≠1:=fun h=>q (.inl h)
          have q2:s.state≠3:=fun h=>q (.inr h)
          refine sN ?_;refine sN ?_;exact yy44
      . have hk:here c n s=false:=by rw [here];simp [hh];omega
        have hcm:comes c n s=false:=by rw [comes,hk];rfl
        rw [zy1 (by omega),zob,zy0 (by rw [hcm];decide),zof,zy0 zz94,zbp,zy0 zz94] at hnx;refine zab (by simpa using hh) (zw ?_)
        (try refine sG ?_)
        refine sT ?_;refine zaa (c:=((out.map zbo.row).length+1)*200<=140737488355328) om (zw ?_);refine sF ?_;exact ⟨⟨_,hnx⟩,(zaz [(6,some 6),(900,some 900),(901,some 97)] zz80),by simp⟩
end Sco
namespace Sco
open Ser
def zfa (c:Chunk) (k at':Nat):List zdw->Nat
 | []=>at'
 | s::r=>zfa c (k+1) (if zdg c s then k else at') r
def zzd (a b:zdw):Prop:=a.stream=b.stream/\a.ordered=b.ordered/\(a.ordered=true\/a.mid=b.mid)
def U (l:List zdw):Prop:=l.Pairwise fun a b=>¬ zzd a b
theorem zgm {c:Chunk} {s:zdw}:zdg c s=true↔s.stream=c.stream/\s.ordered=c.ordered/\(c.ordered=true\/s.mid=c.mid):=by
 simp only [zdg,zy16,zy15,zy125,and_assoc]
theorem xel {c:Chunk} {s t:zdw} (h:zdg c s=true) (k:zdg c t=true):zzd s t:=by
 obtain ⟨h1,h2,h3⟩:=zgm.1 h;obtain ⟨k1,k2,k3⟩:=zgm.1 k;refine ⟨h1.trans k1.symm,h2.trans k2.symm,?_⟩;rcases h3 with h3 | h3
 . exact .inl (h2.trans h3)
 . rcases k3 with k3 | k3
   . exact .inl (h2.trans k3)
   . exact .inr (h3.trans k3.symm)
theorem zpt {c:Chunk}:∀ {l:List zdw} {k a:Nat},(∀ s∈l,zdg c s=false)->zfa c k a l=a
 | [],_,_,_=>rfl
 | s::r,k,a,h=>by
  rw [zfa,zy0 (by rw [h s (by simp)];decide)];exact zpt fun x hx=>h x zz103
theorem ynd {c:Chunk}:∀ {a b:List zdw} {k z:Nat},zfa c k z (a++b)=zfa c (k+a.length) (zfa c k z a) b
 | [],b,k,z=>rfl
 | s::r,b,k,z=>by
  rw [zy40,zfa,ynd,zfa];congr 1;simp;omega
theorem ysx {c:Chunk} {l:List zdw} (hu:U l):(zfa c 0 l.length l=l.length/\skip c l=l++[⟨c.stream,c.mid,c.ordered⟩]/\U (skip c l)) \/
 ∃ a s b,l=a++s::b/\zfa c 0 l.length l=a.length/\skip c l=a++⟨c.stream,c.mid,c.ordered⟩::b/\U (skip c l):=by
 by_cases hn:∀ s∈l,zdg c s=false
 . left
   have h1:=zmm hn [];rw [zy4] at h1;have h2:skip c l=l++[⟨c.stream,c.mid,c.ordered⟩]:=h1;refine ⟨zpt hn,h2,?_⟩;rw [h2];refine zy112.2 ⟨hu,List.pairwise_singleton _ _,fun x hx y hy=>?_⟩;rw [zy25.1 hy];rintro ⟨e1,e2,e3⟩;have:=hn x hx;have h4:zdg c x=true:=zgm.2 ⟨e1,e2,by rcases e3 with e3 | e3;exact .inl (e2.symm.trans e3);exact .inr e3⟩;rw [h4] at this;cases this
 . right
   obtain ⟨s0,hs0,hm0⟩:∃ s∈l,zdg c s=true:=by
    apply Classical.byContradiction;intro hc;exact hn fun s hs=>by
     cases hm:zdg c s with
     | false=>rfl
     | true=>exact absurd ⟨s,hs,hm⟩ hc
   have gen:∀ l:List zdw,(∃ s∈l,zdg c s=true)->∃ a s b,l=a++s::b/\zdg c s=true/\∀ x∈a,zdg c x=false:=by
    intro l
    induction l with
    | nil=>rintro ⟨s,hs,_⟩;simp at hs
    | cons x r ih =>
     rintro ⟨s,hs,hm⟩;cases hx:zdg c x with
     | true=>exact ⟨[],x,r,rfl,hx,by simp⟩
     | false =>
      have:∃ s∈r,zdg c s=true:=by
       rcases zy13.1 hs with rfl | hs
       . rw [hx] at hm;cases hm
       . exact ⟨s,hs,hm⟩
      obtain ⟨a,t,b,h1,h2,h3⟩:=ih this;refine ⟨x::a,t,b,by rw [h1];rfl,h2,fun y hy=>?_⟩;rcases zy13.1 hy with rfl | hy
      . exact hx
      . exact h3 y hy
   obtain ⟨a,s,b,rfl,hm,ha⟩:=gen l ⟨s0,hs0,hm0⟩;obtain ⟨u1,u2,u3⟩:=zy112.1 hu;obtain ⟨u4,u5⟩:=zy129.1 u2;have hb:∀ x∈b,zdg c x=false:=by
    intro x hx;cases hxm:zdg c x with
    | false=>rfl
    | true=>exact absurd (xel hm hxm) (u4 x hx)
   obtain ⟨m1,m2,m3⟩:=zgm.1 hm;have h2:skip c (a++s::b)=a++⟨c.stream,c.mid,c.ordered⟩::b:=by
    rw [zmm ha,skip,zy1 hm,m1,m2]
   have tr:∀ x:zdw,zzd ⟨c.stream,c.mid,c.ordered⟩ x->zzd s x:=by
    rintro x ⟨e1,e2,e3⟩;refine ⟨m1.trans e1,m2.trans e2,?_⟩;rcases e3 with e3 | e3
    . exact .inl (m2.trans e3)
    . rcases m3 with m3 | m3
      . exact .inl (m2.trans m3)
      . exact .inr (m3.trans e3)
   have sy:∀ x y:zdw,zzd x y->zzd y x:=fun x y ⟨e1,e2,e3⟩=>⟨e1.symm,e2.symm,by rcases e3 with e3 | e3;exact .inl (e2.symm.trans e3);exact .inr e3.symm⟩
   refine ⟨a,s,b,rfl,?_,h2,?_⟩
   . rw [ynd,zpt ha,zfa,zy1 hm,zpt hb];omega
   . rw [h2]
     refine zy112.2 ⟨u1,zy129.2 ⟨fun x hx h=>u4 x hx (tr x h),u5⟩,fun x hx y hy=>?_⟩;rcases zy13.1 hy with rfl | hy
     . intro h;exact u3 x hx s zz5 (sy _ _ (tr _ (sy _ _ h)))
     . exact u3 x hx y zz121
theorem zlf (l:List zbo) (cum:Int) (hl:l.length<2 ^ 38):zan Tryz.prog 89 [zdy l,i64 cum] zad (.tup [i64 (zdx l cum).1,zbr (zdx l cum).2]) zad:=by
 refine zal mixed Tryz.func89 zz4 ?_;generalize hR:zdx l cum=R;(conv=>whnf);refine ⟨{x:List zbo×List zbo×Int×List zdw // l=x.1++x.2.1/\x.2.2.2.length<=8/\zet x.2.2.1 x.2.2.2 x.2.1=R/\U x.2.2.2},fun | ⟨(a,b,z,sk),_⟩=>hs 107 [(1,i64 z),(6,.own 900),(14,zdy l),(15,i64 l.length),(16,i64 a.length)] [(900,yhc sk)],fun x=>x.1.2.1.length,⟨([],l,cum,[]),rfl,by simp,hR,List.Pairwise.nil⟩,?_,?_⟩
 . exact (zbi [(900,none)])
 rintro ⟨⟨a,b,z,sk⟩,h,hsk,hi,hu⟩;dsimp only at h hsk hi hu;cases b with
 | nil =>
  have hz:=zbn h;simp only [zet] at hi;subst hi;(conv=>whnf)
  ((refine yyn ?_;conv=>whnf);try refine sG ?_)
  try rfl
 | cons s b =>
  have hz:=zbe h;simp only [zet] at hi;have fs:=ysx (c:=s.chunk) hu;have sl:=ycd s.chunk sk;(conv=>whnf);refine sT ?_;refine zaj h rfl (zw ?_);by_cases c2:s.state=4
  . refine sN ?_
    refine sR ?_;by_cases c1:s.number=W (z+1)
    . rw [zy0 (by rintro (h1 | h1);exact h1 c1;exact h1.1 c2),zy1 c2] at hi
      refine sN ?_;refine sT ?_;generalize hA:zfa s.chunk 0 sk.length sk=A at fs;refine ⟨{x:List zdw×List zdw×Nat // sk=x.1++x.2.1/\zfa s.chunk x.1.length x.2.2 x.2.1=A},fun | ⟨(c,d,t),_⟩=>hs 107 [(1,i64 z),(6,.own 900),(9,.ptr 9 0),(10,i64 t),(14,zdy l),(15,i64 l.length),(16,i64 a.length),(44,.own 900),(45,i64 sk.length),(46,i64 c.length)] [(9,.live (.cells 61 s.chunk.cells)),(900,yhc sk)],fun x=>x.1.2.1.length,⟨([],sk,sk.length),rfl,hA⟩,?_,?_⟩
      . exact (zbi [(9,some 9),(900,some 900)])
      rintro ⟨⟨c,d,t⟩,hcd,hlast⟩;dsimp only at hcd hlast;cases d with
      | nil =>
       have hz2:=zbn hcd;simp only [zfa] at hlast;subst hlast;(conv=>whnf);refine sN ?_;rcases fs with ⟨f1,f2,f3⟩ | ⟨p,y,q,f0,f1,f2,f3⟩
       . have f4:(skip s.chunk sk).length=sk.length+1:=by rw [f2];simp
         by_cases c8:sk.length=8
         . rw [zy1 (by omega)] at hi
           subst hi
           ((refine ypq ?_;conv=>whnf);try refine sG ?_)
           try rfl
         . rw [zy0 (by omega)] at hi
           refine sN ?_;refine zaa (c:=(([]:List (List PV)).length+(sk.map zdw.row).length)*24<=140737488355328) om (zw ?_)
           (try refine sG ?_)
           refine sT ?_;refine zaa (c:=((([]:List (List PV))++sk.map zdw.row).length+1)*24<=140737488355328) zz3 (zw ?_);refine sO ?_;refine zcc (r:=[pi 0,pi 0,pb false]) ?_ ?_ ?_
           . omega
           . rw [f1]
             show ([]++sk.map zdw.row++[[pi 0,pi 0,pb false]])[_]?=_;rw [zy57,zy45 (by simp)];simp
           (conv=>whnf);have e1:zai.live (.row 180 3 ((sk.map zdw.row++[[pi 0,pi 0,pb false]]).set t [pi s.chunk.stream,pi s.chunk.mid,pb s.chunk.ordered]))=yhc (skip s.chunk sk):=by
            rw [f2,f1];have:=(zeg (t:=180) (n:=3) (f:=zdw.row) (a:=sk) (b:=[]) (x:=⟨0,0,false⟩) (y:=⟨s.chunk.stream,s.chunk.mid,s.chunk.ordered⟩) (k:=sk.length) (r:=[pi s.chunk.stream,pi s.chunk.mid,pb s.chunk.ordered]) rfl rfl).symm;rw [zy33] at this;exact this
           refine sR ?_;refine sF ?_;exact ⟨⟨(a++[s],b,W (z+1),skip s.chunk sk),zag h,by dsimp only;omega,by rw [<- c1];exact hi,f3⟩,(zaz [(900,some 90)] zz102),by simp⟩
       . have f4:(skip s.chunk sk).length=sk.length:=by rw [f2,f0];simp
         have f5:sk.length=p.length+q.length+1:=by rw [f0];simp;omega
         rw [zy0 (by omega)] at hi;refine sN ?_;refine zaa (c:=(([]:List (List PV)).length+(sk.map zdw.row).length)*24<=140737488355328) om (zw ?_)
         (try refine sG ?_)
         refine sN ?_;refine sO ?_;refine zaj (f:=zdw.row) (l:=sk) (a:=p) (b:=q) (s:=y) f0 (by rw [f1];simp) (zw ?_);have e1:zai.live (.row 180 3 ((sk.map zdw.row).set t [pi s.chunk.stream,pi s.chunk.mid,pb s.chunk.ordered]))=yhc (skip s.chunk sk):=by
          rw [f2,f0,f1];exact (zeg (f:=zdw.row) (a:=p) (b:=q) (x:=y) (y:=⟨s.chunk.stream,s.chunk.mid,s.chunk.ordered⟩) rfl rfl).symm
         refine sR ?_;refine sF ?_;exact ⟨⟨(a++[s],b,W (z+1),skip s.chunk sk),zag h,by dsimp only;omega,by rw [<- c1];exact hi,f3⟩,(zaz [(900,some 82)] zz102),by simp⟩
      | cons x d =>
       have hz2:=zbe hcd;simp only [zfa] at hlast;(conv=>whnf);refine sT ?_;refine sO ?_;refine zaj hcd rfl (zw ?_);refine zaf (fun k1=>?_) (fun k1=>?_)
       . conv=>whnf
         refine zaf (fun k2=>?_) (fun k2=>?_)
         . conv=>whnf
           have e2:x.ordered=s.chunk.ordered:=by simpa using k2
           refine zaf (fun k3=>?_) (fun k3=>?_)
           . have hm:zdg s.chunk x=true:=zgm.2 ⟨by simpa using k1,e2,.inl (by rw [<- e2];exact k3)⟩
             exact yy118
           . conv=>whnf
             refine zaf (fun k4=>?_) (fun k4=>?_)
             . have hm:zdg s.chunk x=true:=zgm.2 ⟨by simpa using k1,e2,.inr (by simpa using k4)⟩
               exact yy118
             . have hm:¬ zdg s.chunk x=true:=by
                intro h;obtain ⟨_,_,h3⟩:=zgm.1 h;rcases h3 with h3 | h3
                . rw [e2,h3] at k3;cases k3
                . simp [h3] at k4
               exact yy63
         . have hm:¬ zdg s.chunk x=true:=by
            intro h;obtain ⟨_,h3,_⟩:=zgm.1 h;simp [h3] at k2
           exact yy63
       . have hm:¬ zdg s.chunk x=true:=by
          intro h;obtain ⟨h3,_,_⟩:=zgm.1 h;simp [h3] at k1
         exact yy63
    . rw [zy1 (.inl c1)] at hi
      subst hi
      ((refine ypq ?_;conv=>whnf);try refine sG ?_)
      try rfl
  . refine sT ?_
    by_cases c3:s.state=2
    . refine sN ?_
      refine sR ?_;by_cases c1:s.number=W (z+1)
      . rw [zy0 (by rintro (h1 | h1);exact h1 c1;exact h1.2 c3),zy0 c2] at hi
        refine sN ?_;refine sN ?_;refine sR ?_;refine sF ?_;exact ⟨⟨(a++[s],b,W (z+1),sk),zag h,hsk,by rw [<- c1];exact hi,hu⟩,(zbi [(900,some 900)]),by simp⟩
      . rw [zy1 (.inl c1)] at hi
        subst hi
        ((refine ypq ?_;conv=>whnf);try refine sG ?_)
        try rfl
    . rw [zy1 (.inr ⟨c2,c3⟩)] at hi
      subst hi
      ((refine ypq ?_;conv=>whnf);try refine sG ?_)
      try rfl
end Sco
namespace Snd
open Ser
abbrev scS (s:zah):zai:=.live (.cells 32 (ycf s (Sch.qs s.queue) (ints s.sched.had) (Sco.zdy s.out) (zov s.paths) (ints s.mids) (ints s.fates)))
abbrev sc0:zai:=.live (.cells 32 ylh)
theorem zny (s:zah) (ho:Sco.zeu s.out) (hp:s.paths.length<2 ^ 22) :
 zan Tryz.prog 86 [s.hv] zad (.agg (ycf (zck s) (Sch.qs (zck s).queue) (ints (zck s).sched.had) (Sco.zdy (zck s).out) (.own 0) (ints (zck s).mids) (ints (zck s).fates))) (lk .free [(0,yxv (zck s).paths)]):=by
 show zan Tryz.prog 86 [s.hv] zad (.agg (ycf s (Sch.qs s.queue) (ints s.sched.had) (Sco.zdy s.out) (.own 0) (ints s.mids) (ints s.fates))) (lk .free [(0,yxv (zck s).paths)]);have hF:(zck s).paths=s.paths.mapIdx fun i p=>flP s.out i p:=rfl
 generalize (zck s).paths=F at hF ⊢;refine zap mixed Tryz.func86 zz4 [] (fun _=>.inl rfl) ?_;(conv=>whnf);refine ⟨{x:List Path×List Path // s.paths=x.1++x.2},fun | ⟨(A,B),_⟩=>hs 27 [(1,.ptr 1 0),(2,.ptr 2 0),(3,.own 900),(7,zov s.paths),(8,i64 s.paths.length),(9,i64 A.length)] [(1,scS s),(2,sc0),(900,yxv (A.mapIdx fun i p=>flP s.out i p))],fun x=>x.1.2.length,⟨([],s.paths),rfl⟩,?_,?_⟩
 . exact (zbi [(1,some 1),(2,some 2),(900,none)])
 rintro ⟨⟨A,B⟩,h⟩;dsimp only at h;(conv=>whnf);cases B with
 | cons p B =>
  have hz:=zbe h;refine sT ?_;refine zaj h rfl (zw ?_)
  (refine cL ?_;refine dL (Sco.yhu s.out A.length ho) ?_)
  refine zaa (c:=(((A.mapIdx fun i p=>flP s.out i p).map Path.row).length+1)*56<=140737488355328) zz3 (zw ?_);refine sF ?_;refine ⟨⟨(A++[p],B),zag h⟩,(zaz [(1,some 1),(2,some 2),(900,some 22)] (by repeat' (first | exact z0 | refine z1 ?_ | refine ⟨?_,?_⟩ | ((exact zbc (f:=Path.row) zy101 rfl)) | exact z2))),by simp⟩
 | nil =>
  have hz:=zbn h;rw [zy4] at h;refine sN ?_;refine zao [(0,some 900)] rfl rfl trivial rfl rfl ⟨⟨rfl,.inl ⟨900,rfl,?_⟩⟩,trivial⟩;exact zar (by rw [hF,h])
theorem ycq (s:zah) (ho:Sco.zeu s.out) (hp:s.paths.length<2 ^ 22):zan Tryz.prog 86 [s.hv] zad (zck s).hv zad:=by
 refine zcn Tryz.func86 (zny s ho hp) ?_;(conv=>whnf)
 rfl
theorem zoc {N:Nat} {p:zfl} {i path:Nat} {x:zbo} {w:Path} (hS:SI N (fly p i path).s) (hx:p.s.out[i]?=some x) (hw:p.s.paths[path]?=some w) :
 zck {p.s with out:=p.s.out.set i (zsp x path)}=(fly p i path).s:=by
 have hF:=hS.zba;have e:(fly p i path).s={p.s with out:=p.s.out.set i (zsp x path),paths:=p.s.paths.set path {w with zba:=W (w.zba+x.chunk.data.length)}}:=by
  simp only [fly,hx,setAt,hw]
 rw [e] at hF ⊢;dsimp only at hF;have hl:=(zy9.1 hw).1;unfold zck;dsimp only;congr 1;apply zy83;intro j;rw [zy102];by_cases hj:j=path
 . subst hj
   have h2:=hF j {w with zba:=W (w.zba+x.chunk.data.length)} (zy41 hl);rw [zy41 hl,hw];dsimp only at h2;show some (flP _ j w)=_;unfold flP;rw [h2]
 . rw [zy91 (Ne.symm hj)]
   cases hp:p.s.paths[j]? with
   | none=>rfl
   | some a =>
    have h2:=hF j a (by rw [zy91 (Ne.symm hj)];exact hp);show some (flP _ j a)=_;unfold flP;rw [<- h2]
theorem ziz (s:zah) (ho:Sco.zeu s.out) (hp:s.paths.length<2 ^ 22) {rows:List (List PV)} (hr:rows=s.out.map zbo.row) :
 zan Tryz.prog 86 [.agg (ycf s (Sch.qs s.queue) (ints s.sched.had) (.p (.sl 20 rows)) (zov s.paths) (ints s.mids) (ints s.fates))] zad (zck s).hv zad:=by
 subst hr;exact ycq s ho hp
end Snd
namespace Snd
open Ser
theorem ydz {id:Int} {s:zah} {m:zak} (h:¬ (m.id=id/\m.parts>0)):zez id s m=s:=zy0 h
theorem xcy {id:Int} {s:zah} {m:zak} (h:m.id=id/\m.parts>0):zez id s m={s with out:=s.out++[zpg s.next m],next:=W (s.next+1)}:=zy1 h
abbrev rgC (s u:zah) (_:Nat) (q o:HV):zai:=.live (.cells 32 (ycf {s with next:=u.next} q (ints s.sched.had) o (zov s.paths) (ints s.mids) (.own 901)))
theorem zzo {N:Nat} (s:zah) (id:Nat) (hS:SI N s) (hid:id<s.fates.length):zan Tryz.prog 99 [s.hv,i64 id] zad (zfg s id).hv zad:=by
 have hg:=(yjk hS hid).fit;obtain ⟨h1,h2,h3,h4,h5,h6,h7⟩:=hS.fit;have ho1:=h3.len;have hgo:=zts s id;have hk:=zmz id s.queue {s with fates:=s.fates.set id 3};have hso:=(yan id s.queue {s with fates:=s.fates.set id 3}).1;generalize hU:s.queue.foldl (zez id) {s with fates:=s.fates.set id 3}=U at hk hso;have hG:(zck {U with queue:=s.queue.filter fun m=>decide (m.id≠(id:Int)),sched:=if s.sched.hand=id then {s.sched with hand:=-1} else s.sched,out:=U.out.map (Sco.zgk id),forward:=true})=zfg s id:=by rw [<- hU];rfl
 rw [hU] at hgo;generalize zfg s id=G at hG hg hgo ⊢;obtain ⟨f0,hf0⟩:∃ f0,s.fates[id]?=some f0:=⟨_,zy3 hid⟩
 refine zal mixed Tryz.func99 zz4 ?_;(conv=>whnf);refine zaa (c:=(([]:List (List PV)).length+(s.fates.map fun n=>[pi n]).length)*8<=140737488355328) zz3 (zw ?_);refine sOm ?_;refine zam (l:=s.fates) hf0 rfl (zw ?_);refine zaa (c:=(([]:List (List PV)).length+(s.out.map zbo.row).length)*200<=140737488355328) zz3 (zw ?_);refine ⟨{x:(List zak×List zak)×zah // s.queue=x.1.1++x.1.2/\x.1.1.foldl (zez id) {s with fates:=s.fates.set id 3}=x.2/\x.2.out.length<=s.out.length+x.1.1.length},
  fun | ⟨((A,B),u),_⟩=>hs 108 [(1,i64 id),(2,.ptr 2 0),(4,.ptr 4 0),(6,.own 900),(7,.own 902),(25,Sch.qs s.queue),(26,i64 s.queue.length),(27,i64 A.length)] [(2,rgC s u id (Sch.qs s.queue) (Sco.zdy s.out)),(4,sc0),(900,xcb (A.filter fun m=>decide (m.id≠(id:Int)))),(901,zxc (s.fates.set id 3)),(902,xfa u.out)],fun x=>x.1.1.2.length,⟨(([],s.queue),{s with fates:=s.fates.set id 3}),rfl,rfl,by simp⟩,?_,?_⟩
 . exact (zaz [(2,some 2),(4,some 4),(900,none),(901,some 14),(902,some 23)] (by repeat' (first | exact z0 | refine z1 ?_ | refine ⟨?_,?_⟩ | ((exact zar (by simp [zy61]))) | exact z2)))
 rintro ⟨⟨⟨A,B⟩,u⟩,h,hu,hl⟩;dsimp only at h hu hl;have hql:s.queue.length=A.length+B.length:=by rw [h];simp
 (conv=>whnf);cases B with
 | cons m B =>
  have hz:=zbe h;have hun:(A++[m]).foldl (zez id) {s with fates:=s.fates.set id 3}=zez id u m:=by rw [zy58,hu];rfl
  have hAl:(A++[m]).length=A.length+1:=by simp
  refine sT ?_;refine zaj h rfl (zw ?_);by_cases c1:m.id=(id:Int)
  case neg =>
   have hsk:zez id u m=u:=ydz fun h=>c1 h.1
   have hfl:(A++[m]).filter (fun m=>decide (m.id≠(id:Int)))=A.filter (fun m=>decide (m.id≠(id:Int)))++[m]:=by rw [zy42];simp [c1]
   rw [hsk] at hun;refine zac zz39 ?_;conv=>whnf
   have hfa:(A.filter fun m=>decide (m.id≠(id:Int))).length<=A.length:=zy30 _ _;refine zaa (c:=(((A.filter fun m=>decide (m.id≠(id:Int))).map zak.row).length+1)*96<=140737488355328) zz6 (zw ?_);refine sF ?_;exact ⟨⟨((A++[m],B),u),zag h,hun,by dsimp only;omega⟩,(zaz [(2,some 2),(4,some 4),(900,some 38),(901,some 901),(902,some 902)] (by repeat' (first | exact z0 | refine z1 ?_ | refine ⟨?_,?_⟩ | ((exact zbc (f:=zak.row) hfl rfl)) | exact z2))),by simp⟩
  have hfl:(A++[m]).filter (fun m=>decide (m.id≠(id:Int)))=A.filter (fun m=>decide (m.id≠(id:Int))):=by rw [zy42];simp [c1]
  refine zab zz39 (zw ?_);by_cases c2:m.parts>0
  case neg =>
   have hsk:zez id u m=u:=ydz fun h=>c2 h.2
   rw [hsk] at hun;refine zab zz29 (zw ?_)
   (try refine sG ?_)
   refine sF ?_;exact ⟨⟨((A++[m],B),u),zag h,hun,by dsimp only;omega⟩,(zaz ((2,some 2)::((4,some 4)::(pJ3 []))) (by repeat' (first | exact z0 | refine z1 ?_ | refine ⟨?_,?_⟩ | ((rw [hfl])) | exact z2))),by simp⟩
  have hgo1:=xcy (s:=u) ⟨c1,c2⟩;rw [hgo1] at hun;refine zac zz29 ?_;conv=>whnf
  (refine cL ?_;refine dL (zcu _) ?_)
  (refine cL ?_;refine dL (zcu _) ?_)
  refine zaa (c:=((u.out.map zbo.row).length+1)*200<=140737488355328) zz6 (zw ?_);refine sD ?_;refine sR ?_;refine sF ?_;exact ⟨⟨((A++[m],B),{u with out:=u.out++[zpg u.next m],next:=W (u.next+1)}),zag h,hun,by simp;omega⟩,(zaz [(2,some 2),(4,some 4),(900,some 900),(901,some 901),(902,some 63)] (by repeat' (first | exact z0 | refine z1 ?_ | refine ⟨?_,?_⟩ | ((rw [hfl])) | ((exact zbc (f:=zbo.row) rfl (by rw [<- c1];rfl))) | exact z2))),by simp⟩
 | nil =>
 have hz:=zbn h;rw [zy4] at h;subst h;rw [hU] at hu;subst hu;refine sN ?_;refine ⟨{x:List zbo×List zbo // U.out=x.1++x.2},
  fun | ⟨(a,b),_⟩=>hs 108 [(1,i64 id),(2,.ptr 2 0),(4,.ptr 4 0),(6,.own 900),(7,.own 902),(70,i64 U.out.length),(71,i64 a.length)] [(2,rgC s U id (Sch.qs s.queue) (Sco.zdy s.out)),(4,sc0),(900,xcb (s.queue.filter fun m=>decide (m.id≠(id:Int)))),(901,zxc (s.fates.set id 3)),(902,xfa (a.map (Sco.zgk id)++b))],fun x=>x.1.2.length,⟨([],U.out),rfl⟩,?_,?_⟩
 . exact (zbi ((2,some 2)::((4,some 4)::(pJ3 []))))
 rintro ⟨⟨a,b⟩,h'⟩;dsimp only at h';(conv=>whnf);cases b with
 | cons y b =>
  have hz':=zbe h';have hm:a.length=(a.map (Sco.zgk id)).length:=by simp
  have e0:(a++[y]).map (Sco.zgk id)++b=a.map (Sco.zgk id)++Sco.zgk id y::b:=by simp
  refine sT ?_;refine sO ?_;refine zaj (a:=a.map (Sco.zgk id)) (b:=b) (s:=y) rfl zz5 (zw ?_);by_cases d1:y.id=(id:Int)
  case neg =>
   have e1:Sco.zgk id y=y:=zy0 fun h=>d1 h.1
   rw [show (y.id==(id:Int))=false from zy5.2 d1];(conv=>whnf);exact yy135
  rw [show (y.id==(id:Int))=true from zy15.2 d1];(conv=>whnf);refine sO ?_;refine zaj (a:=a.map (Sco.zgk id)) (b:=b) (s:=y) rfl zz5 (zw ?_);by_cases d2:y.state=2
  case pos =>
   have e1:Sco.zgk id y=y:=zy0 fun h=>h.2 d2
   refine zab zz149 (zw ?_);exact yy135
  have e1:Sco.zgk id y={y with state:=4}:=zy1 ⟨d1,d2⟩;refine zac zz149 (zw ?_);refine sO ?_;refine zaj (a:=a.map (Sco.zgk id)) (b:=b) (s:=y) rfl zz5 (zw ?_);refine sF ?_;exact ⟨⟨(a++[y],b),zag h'⟩,(zaz ((2,some 2)::((4,some 4)::(pJ3 []))) zz26),by simp⟩
 | nil =>
 have hz':=zbn h';rw [zy4] at h';subst h';have hsz:=hgo ▸ hg.out;have hV:zck {s with fates:=s.fates.set id 3,next:=U.next,queue:=s.queue.filter fun m=>decide (m.id≠(id:Int)),sched:=if s.sched.hand=id then {s.sched with hand:=-1} else s.sched,out:=U.out.map (Sco.zgk id),forward:=true}=G:=by
  rw [<- hG];conv=>rhs;rw [hk]
 have hp:=ziz (rows:=(U.out.map (Sco.zgk id)++[]).map zbo.row) {s with fates:=s.fates.set id 3,next:=U.next,queue:=s.queue.filter fun m=>decide (m.id≠(id:Int)),sched:=if s.sched.hand=id then {s.sched with hand:=-1} else s.sched,out:=U.out.map (Sco.zgk id),forward:=true} hsz h4 zz151;rw [hV] at hp;refine sN ?_;by_cases c3:s.sched.hand=(id:Int)
 case pos =>
  rw [zy1 c3] at hp;rw [show (s.sched.hand==(id:Int))=true from zy15.2 c3];conv=>whnf
  exact yy143
 case neg =>
  rw [zy0 c3] at hp;rw [show (s.sched.hand==(id:Int))=false from zy5.2 c3];conv=>whnf
  exact yy143
end Snd
namespace Snd
open Ser
theorem ycs (out:List zbo) (cum:Int) (hl:out.length<2 ^ 38) {rows:List (List PV)} (hr:rows=out.map zbo.row) :
 zan Tryz.prog 89 [.p (.sl 20 rows),i64 cum] zad (.tup [i64 (Sco.zdx out cum).1,Sco.zbr (Sco.zdx out cum).2]) zad:=by
 subst hr;exact Sco.zlf out cum hl
abbrev tkC (s t:zah):zai:=.live (.cells 32 (ycf {s with clock:=W (s.clock+1),forward:=t.forward} (Sch.qs s.queue) (ints s.sched.had) (Sco.zdy t.out) (zov s.paths) (ints s.mids) (ints s.fates)))
abbrev tkR (s:zah) (f:Bool) (r:List (List PV)):zai:=.live (.cells 32 (ycf {s with clock:=W (s.clock+1),forward:=f} (Sch.qs s.queue) (ints s.sched.had) (.p (.sl 20 r)) (zov s.paths) (ints s.mids) (ints s.fates)))
theorem yuh {i:Int} {y:zbo} (h:¬ (y.state=1/\y.path=i)):Sco.late i y=y:=zy0 h
theorem yzg {i:Int} {y:zbo} (h:y.state=1/\y.path=i):Sco.late i y={y with state:=3}:=zy1 h
theorem zwe {α:Type} {C B:List α} {p q:α} {i:Nat} (h:C.length=i):(C++p::B).set i q=C++q::B:=by
 subst h;simp
theorem yrg {N:Nat} (s:zah) (hS:SI N s):zan Tryz.prog 37 [s.hv] zad (tick s).hv zad:=by
 obtain ⟨h1,h2,h3,h4,h5,h6,h7⟩:=hS.fit;have hT:(List.range s.paths.length).foldl (znq s.config.part) {s with clock:=W (s.clock+1)}=tick s:=rfl;generalize tick s=T at hT ⊢;refine zal mixed Tryz.func37 zz4 ?_;(conv=>whnf);refine sR ?_;refine ⟨{x:(List Path×List Path)×zah×List Path // s.paths=x.1.1++x.1.2/\(List.range x.1.1.length).foldl (znq s.config.part) {s with clock:=W (s.clock+1)}=x.2.1/\x.2.1={s with clock:=W (s.clock+1),out:=x.2.1.out,paths:=x.2.2++x.1.2,forward:=x.2.1.forward}/\Sco.zeu x.2.1.out/\x.2.2.length=x.1.1.length},
  fun | ⟨((A,B),t,C),_⟩=>hs 89 [(1,.ptr 1 0),(2,.ptr 2 0),(3,.own 900),(15,zov s.paths),(16,i64 s.paths.length),(17,i64 A.length)] [(1,tkC s t),(2,sc0),(900,yxv C)],fun x=>x.1.1.2.length,⟨(([],s.paths),{s with clock:=W (s.clock+1)},[]),rfl,rfl,rfl,h3,rfl⟩,?_,?_⟩
 . exact (zbi [(1,some 1),(2,some 2),(900,none)])
 rintro ⟨⟨⟨A,B⟩,t,C⟩,h,ht,hk,hz3,hC⟩;dsimp only at h ht hk hz3 hC;have hql:s.paths.length=A.length+B.length:=by rw [h];simp
 refine zcd fun Q hQ=>?_
 (conv=>whnf);cases B with
 | nil =>
  have hz:=zbn h;rw [zy4] at h hk;subst h;rw [hT] at ht;subst ht;refine sN ?_;refine hQ _ _ ?_;conv=>whnf
  rw [hk]
  try rfl
 | cons p B =>
 have hz:=zbe h;have hp:t.paths[A.length]?=some p:=by rw [hk];simp [<- hC]
 have hst:=zij (znq s.config.part) {s with clock:=W (s.clock+1)} A.length;rw [ht] at hst;have hAl:(A++[p]).length=A.length+1:=by simp
 have hcl:t.clock=W (s.clock+1):=by rw [hk]
 have hcu:t.cum=s.cum:=by rw [hk]
 have hz1:=hz3.len;refine sT ?_;refine zaj h rfl (zw ?_)
 (try refine sG ?_)
 by_cases c1:p.zcs=0
 case pos =>
  rw [znc hp (.inl c1)] at hst;refine zab zz145 (zw ?_);exact yy62
 refine zac (zy77.2 c1) (zw ?_);by_cases c2:W (s.clock+1)<p.zcs
 case pos =>
  rw [znc hp (.inr (by rw [hcl];exact c2))] at hst;refine zab zz29 (zw ?_);exact yy62
 have hgo:=yne (part:=s.config.part) hp (fun h=>h.elim c1 (by rw [hcl];exact c2));have hsz:=zyo A.length hz3;have hset:t.paths.set A.length (Paths.late p s.config.part)=(C++[Paths.late p s.config.part])++B:=by
  rw [hk];show (C++p::B).set _ _=_;rw [zwe hC];simp
 refine zac zz29 ?_;conv=>whnf
 refine zaa (c:=(([]:List (List PV)).length+(t.out.map zbo.row).length)*200<=140737488355328) zz3 (zw ?_);refine ⟨{x:List zbo×List zbo // t.out=x.1++x.2},fun | ⟨(a,b),_⟩=>hs 89 [(1,.ptr 1 0),(2,.ptr 2 0),(3,.own 900),(4,i64 A.length),(5,.ptr 5 0),(6,.own 902),(15,zov s.paths),(16,i64 s.paths.length),(17,i64 A.length),(37,i64 t.out.length),(38,i64 a.length)] [(1,tkC s t),(2,sc0),(5,.live (.cells 86 p.cells)),(900,yxv C),(902,xfa (a.map (Sco.late A.length)++b))],fun x=>x.1.2.length,⟨([],t.out),rfl⟩,?_,?_⟩
 . exact (zbi [(1,some 1),(2,some 2),(5,some 5),(900,some 900),(902,some 35)])
 rintro ⟨⟨a,b⟩,h'⟩;dsimp only at h';refine zcd fun Q2 hQ2=>?_
 (conv=>whnf);cases b with
 | cons y b =>
  have hz':=zbe h';have e0:(a++[y]).map (Sco.late A.length)++b=a.map (Sco.late A.length)++Sco.late A.length y::b:=by simp
  refine sT ?_;refine sO ?_;refine zaj (a:=a.map (Sco.late A.length)) (b:=b) (s:=y) rfl zz5 (zw ?_);by_cases d1:y.state=1
  case neg =>
   have e1:=yuh (i:=A.length) (y:=y) fun h=>d1 h.1
   refine zab (zy5.2 d1) (zw ?_);exact yy107
  refine zac (zy15.2 d1) (zw ?_);refine sO ?_;refine zaj (a:=a.map (Sco.late A.length)) (b:=b) (s:=y) rfl zz5 (zw ?_);by_cases d2:y.path=(A.length:Int)
  case neg =>
   have e1:=yuh (i:=A.length) (y:=y) fun h=>d2 h.2
   refine zab zz149 (zw ?_);exact yy107
  have e1:=yzg (i:=A.length) (y:=y) ⟨d1,d2⟩;refine zac zz149 (zw ?_);refine sO ?_;refine zaj (a:=a.map (Sco.late A.length)) (b:=b) (s:=y) rfl zz5 (zw ?_);refine sF ?_;refine hQ2 _ _ (zw ?_);exact ⟨⟨(a++[y],b),zag h'⟩,(zaz [(1,some 1),(2,some 2),(5,some 5),(900,some 900),(902,some 902)] zz26),by simp⟩
 | nil =>
 have hz':=zbn h';rw [zy4] at h';subst h';have hpt:=ycs (rows:=(t.out.map (Sco.late A.length)++[]).map zbo.row) (t.out.map (Sco.late A.length)) s.cum hsz.len zz151;have zpn:((t.out.map (Sco.late A.length)++[]).map zbo.row)=(t.out.map (Sco.late A.length)).map zbo.row:=by rw [zy4]
 refine sN ?_;refine hQ2 _ _ (zw ?_)
 (refine cL ?_;refine dL (Paths.yqz p s.config.part) ?_)
 (refine cP ?_;refine dL hpt ?_)
 by_cases c3:(Sco.zdx (t.out.map (Sco.late A.length)) s.cum).1>s.cum
 case pos =>
  rw [zy1 (show (Sco.zdx (zrg s.config.part t A.length p).out t.cum).1>t.cum from by rw [hcu];exact c3)] at hgo;refine zac zz87 (zw ?_)
  (try refine sG ?_)
  refine zaa (c:=((C.map Path.row).length+1)*56<=140737488355328) zz6 (zw ?_);refine sF ?_;refine hQ _ _ ?_;conv=>whnf
  exact ⟨⟨((A++[p],B),{zrg s.config.part t A.length p with forward:=true},C++[Paths.late p s.config.part]),zag h,by rw [hAl,hst];exact hgo,by rw [<- hset];unfold zrg;rw [hk],hsz,by simp [hC]⟩,(zog [35,902] [(1,some 1),(2,some 2),(900,some 84)] (by repeat' (first | exact z0 | refine z1 ?_ | refine ⟨?_,?_⟩ | ((exact zbc (f:=Path.row) rfl rfl)) | ((exact congrArg (tkR s true) zpn)) | exact z2))),by simp⟩
 case neg =>
  rw [zy0 (show ¬ (Sco.zdx (zrg s.config.part t A.length p).out t.cum).1>t.cum from by rw [hcu];exact c3)] at hgo;refine zab zz87 (zw ?_)
  (try refine sG ?_)
  refine zaa (c:=((C.map Path.row).length+1)*56<=140737488355328) zz6 (zw ?_);refine sF ?_;refine hQ _ _ ?_;conv=>whnf
  exact ⟨⟨((A++[p],B),zrg s.config.part t A.length p,C++[Paths.late p s.config.part]),zag h,by rw [hAl,hst];exact hgo,by rw [<- hset];unfold zrg;rw [hk],hsz,by simp [hC]⟩,(zog [35,902] [(1,some 1),(2,some 2),(900,some 84)] (by repeat' (first | exact z0 | refine z1 ?_ | refine ⟨?_,?_⟩ | ((exact zbc (f:=Path.row) rfl rfl)) | ((exact congrArg (tkR s t.forward) zpn)) | exact z2))),by simp⟩
end Snd
namespace Snd
open Ser
def pdC (s:zah) (q h o p m f x y:HV):List HV:=[i64 s.config.streams,i64 s.config.part,i64 s.config.packet,i64 s.config.paths,i64 s.config.turns,i64 s.config.waiting,i64 s.config.first,i64 s.clock,q,i64 s.sched.last,i64 s.sched.hand,h,o,p,i64 s.cum,i64 s.next,i64 s.room,m,f,zbj s.forward,i64 s.recover,x,y]
abbrev pdS (s:zah) (q o p m:HV) (x y:Nat):zai:=.live (.cells 148 (pdC s q (ints s.sched.had) o p m (ints s.fates) (.own x) (.own y)))
abbrev pdP (s:zah) (x y:Nat):zai:=pdS s (Sch.qs s.queue) (Sco.zdy s.out) (zov s.paths) (ints s.mids) x y
def xiu (b:Bool) (i:Nat) (v:HV):HV:=match b with
 | true=>.own i
 | false=>v
def xim (b:Bool) (i:Nat) (x:zai) (l:List (Nat×zai)):List (Nat×zai):=match b with
 | true=>(i,x)::l
 | false=>l
abbrev pdH (b:Bool) (s:zah) (a c:List Chunk):List (Nat×zai) :=
 (1000,pdS s (xiu b 1001 (Sch.qs s.queue)) (Sco.zdy s.out) (zov s.paths) (ints s.mids) 1007 1008)::(1007,zxb a)::(1008,zxb c) ::
  xim b 1001 (xcb s.queue) []
abbrev pdD:List (Nat×zai):=[(1001,.dead)]
theorem yvo {b:Bool} {s:zah} {a c:List Chunk}:∀ i,lk .free (pdH b s a c) i=.free\/i∈[1000,1001,1007,1008]:=fun i=>by
 rcases zbq (L:=pdH b s a c) i with h | h
 . exact .inl h
 . right;cases b<;>simp [xim] at h ⊢<;>omega
theorem zzp (s:zah) (a c:List Chunk) (path:Nat) (w:Path) (hw:s.paths[path]?=some w) (_:s.paths.length<2 ^ 22) :
 zan Tryz.prog 101 [.ptr 1000 0,i64 path] (lk .free (pdH false s a c)) (zbj (opened s path)) (lk .free (pdH false s a c)):=by
 have hi:path<s.paths.length:=(zy9.1 hw).1;rw [opened,hw];refine zap mixed Tryz.func101 zz4 [1000,1007,1008] zbq ?_;(conv=>whnf);refine zam hw rfl (zw ?_);refine zam hw rfl (zw ?_);refine sD ?_
 (exact zci [(1000,some 1000),(1007,some 1007),(1008,some 1008)])
theorem zzm (b:Bool) (s S:zah) (a c:List Chunk) (i:Nat) (x:zbo) (hx:s.out[i]?=some x) (ho:Sco.zeu (s.out.set i (zsp x 0))) (hp:s.paths.length<2 ^ 22) (hS:zck {s with out:=s.out.set i (zsp x 0)}=S) (ha:a.length<2 ^ 30) :
 zan Tryz.prog 102 [.ptr 1000 0,i64 i,i64 0] (lk .free (pdH b s a c)) (.tup []) (lk .free ((1000,pdP S 0 1008)::(0,zxb (a++[x.chunk]))::(1008,zxb c)::(1007,.dead)::pdD)):=by
 have ho1:=ho.len;rw [zy26] at ho1;have hi:i<s.out.length:=(zy9.1 hx).1;have hf:=fun rows=>ziz (rows:=rows) {s with out:=s.out.set i (zsp x 0)} ho hp
 rw [hS] at hf;cases b<;>(
  refine zap mixed Tryz.func102 zz4 [1000,1001,1007,1008] yvo ?_;(conv=>whnf);refine zaa (c:=(([]:List (List PV)).length+(s.out.map zbo.row).length)*200<=140737488355328) zz3 (zw ?_);refine sOm ?_;refine zam (l:=s.out) hx rfl (zw ?_);refine sR ?_;refine sOm ?_;refine zam (l:=s.out) hx rfl (zw ?_)
  (refine cP ?_;refine dL (hf _ (by rw [zy61];rfl)) ?_)
  refine ⟨0,rfl,by decide,zw ?_⟩;refine zaa (c:=((a.map Chunk.row).length+1)*128<=140737488355328) zz3 (zw ?_);refine ⟨0,rfl,by decide,zw ?_⟩;refine sD ?_
  (exact zcx [(1000,some 1000),(1001,some 1001),(1007,some 1007),(1008,some 1008),(0,some 55)] zz75))
theorem zzn (b:Bool) (s S:zah) (a c:List Chunk) (i:Nat) (x:zbo) (hx:s.out[i]?=some x) (ho:Sco.zeu (s.out.set i (zsp x 1))) (hp:s.paths.length<2 ^ 22) (hS:zck {s with out:=s.out.set i (zsp x 1)}=S) (ha:c.length<2 ^ 30) :
 zan Tryz.prog 102 [.ptr 1000 0,i64 i,i64 1] (lk .free (pdH b s a c)) (.tup []) (lk .free ((1000,pdP S 1007 0)::(1007,zxb a)::(0,zxb (c++[x.chunk]))::(1008,.dead)::pdD)):=by
 have ho1:=ho.len;rw [zy26] at ho1;have hi:i<s.out.length:=(zy9.1 hx).1;have hf:=fun rows=>ziz (rows:=rows) {s with out:=s.out.set i (zsp x 1)} ho hp
 rw [hS] at hf;cases b<;>(
  refine zap mixed Tryz.func102 zz4 [1000,1001,1007,1008] yvo ?_;(conv=>whnf);refine zaa (c:=(([]:List (List PV)).length+(s.out.map zbo.row).length)*200<=140737488355328) zz3 (zw ?_);refine sOm ?_;refine zam (l:=s.out) hx rfl (zw ?_);refine sR ?_;refine sOm ?_;refine zam (l:=s.out) hx rfl (zw ?_)
  (refine cP ?_;refine dL (hf _ (by rw [zy61];rfl)) ?_)
  refine ⟨1,rfl,by decide,zw ?_⟩;refine zaa (c:=((c.map Chunk.row).length+1)*128<=140737488355328) zz3 (zw ?_);refine ⟨1,rfl,by decide,zw ?_⟩;refine sD ?_
  (exact zcx [(1000,some 1000),(1001,some 1001),(1007,some 1007),(1008,some 1008),(0,some 55)] zz75))
end Snd
namespace Snd
open Ser
abbrev pdR (s:zah) (a c:List Chunk):List (Nat×zai):=[(1000,pdP s 0 1),(0,zxb a),(1,zxb c),(1007,.dead),(1008,.dead)]
abbrev cq (s:zah) (k:Nat) (m:zak):zah:={zxe s k m with queue:=s.queue}
def built (s:zah) (k:Nat) (m:zak) (A:List zak):List zak:=if decide (m.sent+many s m=m.message.data.length) then A.eraseIdx k else A.set k {m with mid:=zdf s m,sent:=m.sent+many s m,parts:=W (m.parts+1)}
theorem yiq {s:zah} {k:Nat} {m x:zak} {A:List zak} (h:A.length≠k):built s k m (A++[x])=built s k m A++[x]:=by
 unfold built;split
 . rcases zy144 h with h | h
   . rw [zy136 (by simp;omega),zy136 (by omega)]
   . rw [List.eraseIdx_append_of_lt_length (by omega)]
 . rcases zy144 h with h | h
   . rw [zy115 (by simp;omega),zy115 (by omega)]
   . rw [List.set_append_left _ _ (by omega)]
theorem ypd {s:zah} {m x:zak} {A:List zak} (ho:decide (m.sent+many s m=m.message.data.length)=true):built s A.length m (A++[x])=built s A.length m A:=by
 unfold built;rw [zy1 ho,zy1 ho,List.eraseIdx_append_of_length_le (zy23 _),zy136 (zy23 _)];simp
theorem ypc {s:zah} {m x:zak} {A:List zak} (ho:decide (m.sent+many s m=m.message.data.length)=false):built s A.length m (A++[x])=built s A.length m A++[{m with mid:=zdf s m,sent:=m.sent+many s m,parts:=W (m.parts+1)}]:=by
 unfold built;rw [zy0 (by rw [ho];decide),zy0 (by rw [ho];decide),zy153 _ _ (zy23 _),zy115 (zy23 _)];simp
theorem ysh (s:zah) (k:Nat) (m:zak) (A:List zak):(built s k m A).length<=A.length:=by
 unfold built;split
 . exact List.length_eraseIdx_le _ _
 . simp
abbrev rnH (s:zah) (m:zak) (a c:List Chunk):List (Nat×zai):=[(1000,pdP s 1007 1008),(1007,zxb a),(1008,zxb c),(5,.live (.cells 117 m.cells))]
abbrev rnM (s:zah) (m:zak) (a c:List Chunk):List (Nat×zai):=[(1000,pdP {s with mids:=zds s m} 1007 1008),(1007,zxb a),(1008,zxb c),(5,.live (.cells 117 ({m with mid:=zdf s m}:zak).cells))]
abbrev x0r (s:zah) (m:zak) (o:Bool):zbo:=⟨s.next,m.id,0,0,0,0,m.came,m.message.life,m.message.tries,⟨1,tag s.next,m.message.stream,tag (zdf s m),m.parts,o,m.message.ordered,(m.message.data.drop m.sent.toNat).take (many s m).toNat,[],0,[]⟩⟩
abbrev rnK (s:zah) (m:zak) (o:Bool) (r:List (List PV)):zai:=.live (.cells 148 (pdC {s with mids:=zds s m,sched:=Sch.had s.sched {m with mid:=zdf s m} (many s m) o,next:=W (s.next+1)} (Sch.qs s.queue) (ints (Sch.had s.sched {m with mid:=zdf s m} (many s m) o).had) (.p (.sl 20 r)) (zov s.paths) (ints (zds s m)) (ints s.fates) (.own 1007) (.own 1008)))
theorem xhu {s:zah} {k:Nat} {m:zak} {o:Bool} (h:o=decide (m.sent+many s m=m.message.data.length)) :
 rnK s m o ((([]:List (List PV))++s.out.map zbo.row)++[(x0r s m o).row])=pdS (cq s k m) (Sch.qs s.queue) (Sco.zdy (zxe s k m).out) (zov s.paths) (ints (zds s m)) 1007 1008:=by
 subst h;refine congrArg (rnK s m _) ?_;show _=(s.out++[_]).map zbo.row;rw [zy33];rfl
theorem ysi {s:zah} {k:Nat} {m:zak}:built s k m []=[]:=by unfold built;split<;>simp
theorem xay {R P:Prop} (h:R->P) (r:R):P:=h r
theorem zwm (s:zah) (a c:List Chunk) (hs:xev s) (hlast:0<s.sched.had.length->0<=s.sched.last/\s.sched.last<s.sched.had.length) (h2p:s.paths.length<=2) (hb:a.length+c.length<2 ^ 29)
 (hfl:∀ k m,s.queue[k]?=some m->Sco.zeu ((zxe s k m).out.set s.out.length (zsp ⟨s.next,m.id,0,0,0,0,m.came,m.message.life,m.message.tries,cut s m (many s m)⟩ (choose s))) /\
  zck {zxe s k m with out:=(zxe s k m).out.set s.out.length (zsp ⟨s.next,m.id,0,0,0,0,m.came,m.message.life,m.message.tries,cut s m (many s m)⟩ (choose s))}=(zlr ⟨s,[a,c]⟩ k m (many s m)).s) :
 zan Tryz.prog 103 [.ptr 1000 0] (lk .free (pdH false s a c)) (zbj (nx s [a,c]).2) (lk .free (pdR (nx s [a,c]).1.s (yfw (nx s [a,c]).1.out) (ynp (nx s [a,c]).1.out))):=by
 obtain ⟨g,hp,hp1,hp2,hmsg⟩:=hs;obtain ⟨⟨f1,f2,f3,f4,f5,f6,f7⟩,g2,g3,g4⟩:=g;obtain ⟨hch,hch2⟩:=zdm hp;have pc:=Paths.zjo s.paths zz0;rw [hch] at pc;obtain ⟨w,hw⟩:∃ w,s.paths[choose s]?=some w:=⟨_,zy3 hch2⟩
 have pn:=Sch.yrd s.config.turns s.sched s.queue zz0 zz0 hlast;have po:=zzp s a c (choose s) w hw zz0;have hop:opened s (choose s)=decide (w.zba<w.window):=by rw [opened,hw]
 rw [hop] at po;generalize hG:nx s [a,c]=G;refine zap mixed Tryz.func103 zz4 [1000,1007,1008] zbq ?_;(conv=>whnf)
 (refine cL ?_;refine dL pc ?_)
 by_cases c1:zei s<0
 case pos =>
  (refine cL ?_;refine dL pn ?_)
  refine sD ?_;refine zac ?_ ?_
  . exact zy10 c1
  (conv=>whnf);rw [ynq c1] at hG;exact yy61
 obtain ⟨k,hkl,hke⟩:=ycy (t:=s.config.turns) (s:=s.sched) (q:=s.queue) zz129;have hke':zei s=k:=hke;rw [hke] at pn;obtain ⟨m,hm⟩:∃ m,s.queue[k]?=some m:=⟨_,zy3 hkl⟩
 have hmf:=hmsg m (zy21 hm);obtain ⟨mf,mh,ms,ml,md⟩:=hmf;obtain ⟨n1,n2,n3⟩:=zrh (s:=s) (m:=m) hp1 hp2 ms ml md
 (refine cL ?_;refine dL pn ?_)
 refine sD ?_;by_cases c2:w.zba<w.window
 case neg =>
  rw [zy11 c2] at po
  (refine zae [] [(1000,1000),(1007,1007),(1008,1008)] [] ?_;(conv=>whnf);refine dG po ?_)
  rw [ynr hw c2] at hG;exact yy61
 rw [zy10 c2] at po
 (refine zae [] [(1000,1000),(1007,1007),(1008,1008)] [] ?_;(conv=>whnf);refine dG po ?_)
 by_cases c3:(s.out.length:Int)>=60
 case pos =>
  refine zac ?_ ?_
  . rw [zy2];exact zy10 c3
  (conv=>whnf);rw [yns c3] at hG;exact yy61
 refine zab ?_ ?_
 . rw [zy2];exact zy11 c3
 conv=>whnf
 (try refine sG ?_)
 refine zam hm rfl (zw ?_);refine zbv (z':=(m.message.data.length:Int)-m.sent) ?_ ?_
 . show W _=_
   rw [zy2];exact zbu zz0 zz0
 (conv=>whnf);refine zhs.meet PUnit (fun _=>hsP [1000,1007,1008] 298 [(0,.ptr 1000 0),(3,i64 (choose s)),(4,i64 k),(5,.ptr 5 0),(6,i64 (many s m))] (rnH s m a c)) ?_ ?_
 . conv=>whnf
   refine zaf (fun c=>?_) (fun c=>?_)
   . have c':(m.message.data.length:Int)-m.sent>s.config.part:=zy24 c
     (conv=>whnf);exact ⟨⟨⟩,(zcb [(1000,some 1000),(1007,some 1007),(1008,some 1008),(5,some 5)] zz70)⟩
   . have c':¬ (m.message.data.length:Int)-m.sent>s.config.part:=zy32 c
     (conv=>whnf);exact ⟨⟨⟩,(zcb [(1000,some 1000),(1007,some 1007),(1008,some 1008),(5,some 5)] zz70)⟩
 rintro ⟨⟩;(conv=>whnf);refine ⟨{x:List Path×List Path // s.paths=x.1++x.2},fun | ⟨(A,B),_⟩=>hsP [1000,1007,1008] 298 [(0,.ptr 1000 0),(3,i64 (choose s)),(4,i64 k),(5,.ptr 5 0),(6,i64 (many s m)),(7,i64 (A.foldl (fun n a=>W (n+a.zba)) 0)),(89,zov s.paths),(90,i64 s.paths.length),(91,i64 A.length)] (rnH s m a c),fun x=>x.1.2.length,⟨([],s.paths),rfl⟩,?_,?_⟩
 . exact (zdj [(1000,some 1000),(1007,some 1007),(1008,some 1008),(5,some 5)])
 rintro ⟨⟨A,B⟩,h⟩;dsimp only at h;(conv=>whnf);cases B with
 | cons p B =>
  have hz:=zbe h;refine sT ?_;refine zaj h rfl (zw ?_);refine sR ?_;refine sF ?_;exact ⟨⟨(A++[p],B),zag h⟩,(zcb [(1000,some 1000),(1007,some 1007),(1008,some 1008),(5,some 5)] zz47),by simp⟩
 | nil =>
 have hz:=zbn h;rw [zy4] at h;subst h;refine sNm ?_;have hWs:W (m.sent+many s m)=m.sent+many s m:=zbu zz0 zz0;apply xay
 . intro hrest
   by_cases c4:zba s>0
   case neg =>
    have c6:¬ (zba s>0/\W (zba s+many s m)>s.room):=fun h=>c4 h.1
    refine zab (zy11 c4) (zw ?_);exact yy8
   refine zac (zy10 c4) (zw ?_);refine sRm ?_;by_cases c5:W (zba s+many s m)>s.room
   case pos =>
    refine zac (zy10 c5) (zw ?_);rw [ynt hke' hm hw c2 c3 ⟨c4,c5⟩] at hG;exact yy61
   have c6:¬ (zba s>0/\W (zba s+many s m)>s.room):=fun h=>c5 h.2
   refine zab (zy11 c5) (zw ?_);exact yy8
 rintro ⟨c6⟩;rw [zvo hke' hm hw c2 c3 c6] at hG;subst hG;have hov:decide (m.sent+many s m>=((m.message.data.map zcp).length:Int))=decide (m.sent+many s m=m.message.data.length):=by
  rw [zy2];by_cases h:m.sent+many s m=m.message.data.length
  . rw [zy10 h,zy10];omega
  . rw [zy11 h,zy11];omega
 (conv=>whnf);refine zaq (z:=m.sent+many s m) hWs (zw ?_)
 (refine cP ?_;refine dL (Sch.yxa s.sched {m with mid:=zdf s m} (many s m) (decide (m.sent+many s m>=((m.message.data.map zcp).length:Int))) zz0) ?_)
 refine sD ?_;refine zaa (c:=(([]:List (List PV)).length+(s.out.map zbo.row).length)*200<=140737488355328) zz3 (zw ?_)
 (refine cL ?_;refine dL (zcu s.next) ?_)
 (refine cL ?_;refine dL (zcu (zdf s m)) ?_)
 refine zaq (z:=m.sent+many s m) hWs (zw ?_);refine zaa (c:=0<=m.sent/\m.sent<=m.sent+many s m/\m.sent+many s m<=((m.message.data.map zcp).length:Int)) ⟨ms,by omega,by rw [zy2];omega⟩ ?_;refine zha (o':=m.sent.toNat) (n':=(many s m).toNat) rfl (show (m.sent+many s m-m.sent).toNat=(many s m).toNat by rw [show m.sent+many s m-m.sent=many s m by omega]) ?_;refine zgc (f:=zcp) (l:=m.message.data) (o:=m.sent.toNat) (n:=(many s m).toNat) zz0 ?_;(conv=>whnf);refine zaa (c:=((([]:List (List PV))++s.out.map zbo.row).length+1)*200<=140737488355328) zz3 (zw ?_);refine sD ?_;refine sR ?_;refine zaq (z:=m.sent+many s m) hWs (zw ?_);refine sR ?_;refine ⟨{x:List zak×List zak // s.queue=x.1++x.2},fun | ⟨(A,B),_⟩=>hsP [1000,1007,1008] 298 [(0,.ptr 1000 0),(3,i64 (choose s)),(4,i64 k),(5,.ptr 5 0),(12,zbj (decide (m.sent+many s m=m.message.data.length))),(13,.own 900),(260,Sch.qs s.queue),(261,i64 s.queue.length),(262,i64 A.length)] [(1000,pdS (cq s k m) (Sch.qs s.queue) (Sco.zdy (zxe s k m).out) (zov s.paths) (ints (zds s m)) 1007 1008),(1007,zxb a),(1008,zxb c),(5,.live (.cells 117 ({m with mid:=zdf s m,sent:=m.sent+many s m,parts:=W (m.parts+1)}:zak).cells)),(900,xcb (built s k m A))],fun x=>x.1.2.length,⟨([],s.queue),rfl⟩,?_,?_⟩
 . exact (zog [234] [(1000,some 1000),(1007,some 1007),(1008,some 1008),(5,some 5),(900,none)] (by repeat' (first | exact z0 | refine z1 ?_ | refine ⟨?_,?_⟩ | ((exact congrArg zbj hov.symm)) | ((exact xhu hov)) | ((show List.map zak.row (built s k m [])=[];rw [ysi];rfl)) | exact z2)))
 rintro ⟨⟨A,B⟩,h⟩;dsimp only at h;refine zcd fun Q hQ=>?_
 (conv=>whnf);cases B with
 | cons x B =>
  have hz:=zbe h;have hbl:=ysh s k m A;refine sT ?_;refine zaj h rfl (zw ?_)
  (try refine sG ?_)
  by_cases d:A.length=k
  case neg =>
   have hb:=yiq (s:=s) (m:=m) (x:=x) d;refine zab (zy5.2 zz0) (zw ?_)
   (try refine sG ?_)
   refine zac (zy77.2 zz0) (zw ?_);refine zaa (c:=(((built s k m A).map zak.row).length+1)*96<=140737488355328) zz6 (zw ?_);exact yy109
  refine zac (zy15.2 zz0) (zw ?_)
  (try refine sG ?_)
  refine zab (by simp [d]) (zw ?_);subst d;by_cases e:m.sent+many s m=m.message.data.length
  case pos =>
   have hb:=ypd (s:=s) (x:=x) (A:=A) (zy10 e);refine zab (by rw [zy10 e];rfl) (zw ?_)
   (try refine sG ?_)
   refine sF ?_;refine hQ _ _ ?_;conv=>whnf
   exact ⟨⟨(A++[x],B),zag h⟩,(zcb [(1000,some 1000),(1007,some 1007),(1008,some 1008),(5,some 5),(900,some 900)] (by repeat' (first | exact z0 | refine z1 ?_ | refine ⟨?_,?_⟩ | ((rw [hb])) | exact z2))),by simp⟩
  have hb:=ypc (s:=s) (x:=x) (A:=A) (zy11 e);refine zac (by rw [zy11 e];rfl) (zw ?_);refine zaa (c:=(((built s A.length m A).map zak.row).length+1)*96<=140737488355328) zz6 (zw ?_);exact yy109
 | nil =>
 have hz:=zbn h;rw [zy4] at h;subst h;obtain ⟨hsz,hfe⟩:=hfl k m hm;have hx:(zxe s k m).out[s.out.length]?=some (⟨s.next,m.id,0,0,0,0,m.came,m.message.life,m.message.tries,cut s m (many s m)⟩:zbo):=by
  show (s.out++[_])[s.out.length]?=_;rw [zy45 (zy23 _)];simp
 have hol:(zxe s k m).out.length=s.out.length+1:=by show (s.out++[_]).length=_;simp
 have hn1:zlr ⟨s,[a,c]⟩ k m (many s m)=fly ⟨zxe s k m,[a,c]⟩ s.out.length (choose s):=zfx s [a,c] k m;refine sN ?_;refine hQ _ _ ?_;conv=>whnf
 refine zbv (z':=(s.out.length:Int)) ?_ ?_
 . show W ((((zxe s k m).out.map zbo.row).length:Int)-1)=_
   rw [zy2,hol,zbu (by omega) (by omega)];omega
 (conv=>whnf);have hc01:choose s=0\/choose s=1:=by omega
 rcases hc01 with hc | hc
 . have ho1:(zlr ⟨s,[a,c]⟩ k m (many s m)).out=[a++[cut s m (many s m)],c]:=by
    rw [hn1,hc];simp only [fly,hx,setAt];rfl
   rw [hc] at hsz hfe;have pf:=zzm true (zxe s k m) (zlr ⟨s,[a,c]⟩ k m (many s m)).s a c s.out.length (⟨s.next,m.id,0,0,0,0,m.came,m.message.life,m.message.tries,cut s m (many s m)⟩:zbo) hx hsz (by show s.paths.length<_;omega) hfe zz0;generalize zlr ⟨s,[a,c]⟩ k m (many s m)=G at ho1 pf ⊢;rw [hc]
   (refine zae [] [(1000,1000),(1001,900),(1007,1007),(1008,1008)] [(0,920)] ?_;(conv=>whnf);refine dG pf ?_)
   (exact zcx [(1000,some 1000),(1007,some 1007),(1008,some 1008),(0,some 920),(1,some 1008)] zz98)
 . have ho1:(zlr ⟨s,[a,c]⟩ k m (many s m)).out=[a,c++[cut s m (many s m)]]:=by
    rw [hn1,hc];simp only [fly,hx,setAt];rfl
   rw [hc] at hsz hfe;have pf:=zzn true (zxe s k m) (zlr ⟨s,[a,c]⟩ k m (many s m)).s a c s.out.length (⟨s.next,m.id,0,0,0,0,m.came,m.message.life,m.message.tries,cut s m (many s m)⟩:zbo) hx hsz (by show s.paths.length<_;omega) hfe zz0;generalize zlr ⟨s,[a,c]⟩ k m (many s m)=G at ho1 pf ⊢;rw [hc]
   (refine zae [] [(1000,1000),(1001,900),(1007,1007),(1008,1008)] [(0,920)] ?_;(conv=>whnf);refine dG pf ?_)
   (exact zcx [(1000,some 1000),(1007,some 1007),(1008,some 1008),(0,some 1007),(1,some 920)] zz98)
end Snd
end Go.HL
