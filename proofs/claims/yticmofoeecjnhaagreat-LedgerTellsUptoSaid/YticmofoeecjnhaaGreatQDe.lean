/- Walks, contracts and laws of the law's functions: part 5. No condition. -/
import Derived.Test.YticmofoeecjnhaaGreatQDd
open Go.Proofs
set_option maxHeartbeats 32000000
set_option maxRecDepth 100000
set_option linter.unusedSimpArgs false
theorem yy38 {P:Prop} (h:P:=by
 try refine sG ?_
 rw [hjv];refine zap [(0,none)] rfl rfl trivial rfl rfl ⟨⟨rfl,.inr ⟨rfl,rfl⟩⟩,trivial⟩):P:=h
theorem yy149 {P:Prop} (h:P:=by
 intro hlt;have:=zy137 (yqq n) l;rw [show l.dropWhile (yqq n)=t::r from ha] at this;simp [yqq] at this;omega):P:=h
theorem yy70 {P:Prop} (h:P:=by
 refine zap [(0,some 24)] rfl rfl trivial rfl rfl ⟨⟨rfl,.inl ⟨24,rfl,rfl⟩⟩,trivial⟩):P:=h
theorem yy71 {P:Prop} (h:P:=by
 (conv=>whnf);rw [ziq,zy1 he];refine zap [(0,some 84)] rfl rfl trivial rfl rfl ⟨⟨rfl,.inl ⟨84,rfl,?_⟩⟩,trivial⟩;exact zzp zz133):P:=h
theorem yy145 {P:Prop} (h:P:=by
 subst hu;refine zap [(0,some 31)] rfl rfl trivial rfl rfl ⟨⟨rfl,.inl ⟨31,rfl,?_⟩⟩,trivial⟩;exact zzp h):P:=h
theorem yy143 {P:Prop} (h:P:=by
 refine sT ?_;refine sF ?_;exact ⟨⟨((a++[s],r),put,o),zae h,ht,by simp;omega⟩,(zbe [(900,some 900)]),by simp⟩):P:=h
theorem yy26 {P:Prop} (h:P:=by
 (conv=>whnf);refine sF ?_;refine zaa (c:=(0<=(if 0>c.streams then 0 else c.streams:Int)/\(if 0>c.streams then 0 else c.streams:Int)=(if 0>c.streams then 0 else c.streams:Int)/\(if 0>c.streams then 0 else c.streams:Int)*(8:Nat)<=140737488355328)) (by split<;>omega) (zw ?_);refine sD ?_;refine zap [(0,none),(1,none),(2,some 10),(3,none)] rfl rfl trivial rfl rfl ⟨⟨rfl,.inr ⟨rfl,rfl⟩⟩,⟨rfl,.inr ⟨rfl,rfl⟩⟩,⟨rfl,.inl ⟨10,rfl,?_⟩⟩,⟨rfl,.inr ⟨rfl,rfl⟩⟩,trivial⟩;refine zar ?_;rw [show (yiy c).zbp=List.replicate (max c.streams 0).toNat 0 from rfl,zy74];have:(max c.streams 0).toNat=(if 0>c.streams then 0 else c.streams:Int).toNat:=by split<;>omega
 rw [this];rfl):P:=h
theorem yy28 {P:Prop} (h:P:=by
 (conv=>whnf);refine ⟨{x:List zav×List zav // r.pieces=x.1++x.2},fun | ⟨(A,B),_⟩=>hs 21 [(3,i64 (tot A:Nat)),(7,pieces r.pieces),(8,i64 r.pieces.length),(9,i64 A.length)] [],fun x=>x.1.2.length,⟨([],r.pieces),rfl⟩,?_,?_⟩
 . exact (zbe [])
 rintro ⟨⟨A,B⟩,h⟩;dsimp only at h;have hl:r.pieces.length=A.length+B.length:=by rw [h];simp
 have ht:tot r.pieces=tot A+tot B:=by rw [h,zmz]
 (conv=>whnf);cases B with
 | cons p B =>
  rw [zy6] at hl;rw [zfj] at ht;refine sT ?_;refine zaj h rfl (zw ?_);refine sF ?_;refine sF ?_;exact ⟨⟨(A++[p],B),by rw [h];simp⟩,(zax [] zz73),by simp⟩
 | nil =>
  rw [zy12] at hl;rw [zy5] at h;refine sN ?_;rw [h]):P:=h
theorem yy95 {P:Prop} (h:P:=by
 (exact zci (pK5 [(0,some 910),(1,some 911),(2,some 912),(3,some 913)]))):P:=h
theorem yy123 {P:Prop} (h:P:=by
 (exact zci (pK5 [(0,some 1001),(1,some 1002),(2,some 1003),(3,some 1004)]))):P:=h
theorem yy60 {P:Prop} (h:P:=by
 refine sD ?_
 (exact zci [(0,some 910),(1,some 911),(2,some 912),(3,some 913)])):P:=h
theorem yy116 {P:Prop} (h:P:=by
 try refine sG ?_
 (exact zci [(0,some 910),(1,some 911),(2,some 912),(3,some 913)])):P:=h
theorem yy66 {P:Prop} (h:P:=by
 refine ⟨by dsimp only;omega,by dsimp only;omega,by dsimp only;omega,u3,u5,fun s hs=>?_,by dsimp only;omega,?_,h9,fun t htt=>by have:=h10 t htt;dsimp only;omega,h11⟩
 . have:=h6 s (u4 s hs);dsimp only;omega
 . dsimp only
   rcases u6 with u6 | ⟨s,hs,u6⟩
   . omega
   . have:=h6 s hs;omega):P:=h
theorem yy32 {P:Prop} (h:P:=by
 try refine sG ?_
 refine zaa (c:=(((a.filter fun p=>!zgs c.stream c.mid c.ordered p).map zav.row).length+1)*136<=140737488355328) zz3 (zw ?_)
 try refine sG ?_
 refine sF ?_;exact ⟨⟨(a++[p],b),zae h⟩,(zax [(3,some 3),(900,some 900),(901,some 45)] zz38),by simp⟩):P:=h
theorem yy15 {P:Prop} (h:P:=by
 conv=>whnf
 try refine sO ?_
 refine zca k rfl h4 (zw ?_)
 (refine cL ?_;refine dL (zcu _) ?_)
 (refine cP ?_;refine dL ps ?_)
 refine sD ?_;cases ok with
 | false =>
  have hstep:T=y:=hstep;rw [hno rfl] at hstep;subst hstep;(conv=>whnf)
  try refine sG ?_
  try rfl
 | true =>
  have hless:=hless rfl;(conv=>whnf)
  try refine sG ?_
  refine zaa (c:=(([]:List (List PV)).length+(y.zbp.map fun n=>[pi n]).length)*8<=140737488355328) (by rw [zy2,k1];simp;omega) (zw ?_);refine sO ?_;refine zca k rfl h4' (zw ?_);rw [hyk];refine sF ?_;refine sO ?_;refine zca k rfl h4' (zw ?_);have hb:(zyk y k).zbp[k]?.getD 0=x.zbp[k]+1:=by
   show (y.zbp.set k (y.zbp[k]?.getD 0+1))[k]?.getD 0=_;rw [zy41 h4',zy3 h4',hyk];rfl
  refine ⟨⟨(true,zyk y k),⟨by show y.pieces.length<_;omega,by show tot y.pieces<_;omega,by show y.log.length+y.pieces.length<_;omega,by show k<(y.zbp.set k _).length;rw [zy26];exact h4',by rw [hb];omega,by rw [hb];show _+(y.pieces.length:Int)<_;omega⟩,by rw [hstep];rfl,by show (y.zbp.set k _).length<_;rw [zy26,k1];exact h9⟩,(zax [(2,some 2),(4,some 4),(900,some 26)] zz24),by show y.pieces.length<x.pieces.length;omega⟩):P:=h
theorem yy10 {P:Prop} (h:P:=by
 (conv=>whnf);by_cases c5:m<=n
 . rw [zxp g4 (by rw [gm];exact c5)] at he
   obtain ⟨k1,k2,k3,k4,k5,k6,k7⟩:=znn y k;have hgt:(pass y k).zbp[k]?.getD 0=m+1:=by rw [k1,zy41 g4,gm];rfl
   have nx:yst (pass y k) k/\(pass y k).zbp[k]?.getD 0=m+1/\m+1<=2 ^ 58/\turns (ydn (pass y k) k n) k=T/\(pass y k).zbp.length<2 ^ 30:=⟨⟨by omega,by omega,by omega,by rw [k1,zy26];exact g4,by rw [hgt];omega,by rw [hgt];omega⟩,hgt,by omega,he,by rw [k1,zy26];exact g9⟩
   have hpas:=ygy (r:=y) (k:=k) gm;have hrt:=yhe y k (tag m) true true;refine sT ?_
   (refine cL ?_;refine dL (zcu m) ?_)
   rw [<- hk] at hpas hrt
   (refine cP ?_;refine dL (zzy y s.stream (tag m) (tag m) rfl zz0 zz0 zz0) ?_)
   generalize ykv y s.stream (tag m) true true=D' at hpas hrt ⊢;obtain ⟨w,okk⟩:=D';dsimp only at hpas hrt;have hwl:k<w.zbp.length:=by rw [hrt];exact g4
   refine sD ?_;refine zaa (c:=(([]:List (List PV)).length+(w.zbp.map fun n=>[pi n]).length)*8<=140737488355328) (by rw [zy2,hrt];simp;omega) (zw ?_)
   repeat refine sG ?_
   refine sF ?_;refine sO ?_;refine zca k zz0 hwl (zw ?_);refine sF ?_;rw [hpas] at nx;refine hQ _ _ ?_;conv=>whnf
   have nx:xhy k n T (true,zyk w k,m+1):=nx;exact ⟨⟨(true,zyk w k,m+1),nx⟩,(zax [(2,some 2),(4,some 4),(7,some 7),(900,some 103)] zz35),by dsimp only;omega⟩
 . rw [ydo (by rw [gm];omega)] at he
   subst he;refine sN ?_;refine hQ _ _ ?_;conv=>whnf
   (refine cP ?_;refine dL (zia y k _ hk rfl ⟨g1,g2,g3,g4,by rw [gm];omega,by rw [gm];omega⟩ g9) ?_)
   refine sF ?_;refine hQ0 _ _ (zw ?_);exact ⟨⟨(turns y k,a++[s],b),zae h1,next,h3⟩,(zbe [(2,some 2),(4,some 4)]),by simp⟩):P:=h
theorem yy128 {P:Prop} (h:P:=by
 repeat refine sG ?_
 refine sF ?_;refine hQ0 _ _ (zw ?_);exact ⟨⟨(x,a++[s],b),zae h1,next,h3⟩,(zbe [(2,some 2),(4,some 4)]),by simp⟩):P:=h
theorem yy19 {P:Prop} (h:P:=by
 rintro ⟨⟨A,B⟩,h⟩;dsimp only at h;have hl:r.zas.length=A.length+B.length:=by rw [h];simp
 (conv=>whnf);cases B with
 | cons p B =>
  have hp:=hsp p zz109;rw [zy6] at hl;have hq:((A.take 6).map (shift r.cum)).length=min 6 A.length:=by simp
  refine sT ?_;refine zaj h rfl (zw ?_);have hsn:=zsk A p (shift r.cum);by_cases c:A.length<6
  . rw [zy1 c] at hsn
    refine sT ?_;refine sF ?_;refine sF ?_;refine zaa (c:=((((A.take 6).map (shift r.cum)).map Span.row).length+1)*16<=140737488355328) zz3 (zw ?_)
    try refine sG ?_
    refine sF ?_;refine ⟨⟨(A++[p],B),by rw [h];simp⟩,(zax [(1,some 1),(2,some 2),(3,some 3),(900,some 42)] zz51),by simp⟩
  . rw [zy0 c] at hsn
    refine sN ?_;refine sF ?_;refine ⟨⟨(A++[p],B),by rw [h];simp⟩,(zax [(1,some 1),(2,some 2),(3,some 3),(900,some 900)] zz53),by simp⟩
 | nil =>
  rw [zy12] at hl;rw [zy5] at h;refine sN ?_;rw [h]
  try rfl):P:=h
theorem yy22 {P:Prop} (h:P:=by
 exact zap [(0,some 20)] rfl rfl trivial rfl rfl ⟨⟨rfl,.inl ⟨20,rfl,rfl⟩⟩,trivial⟩):P:=h
theorem yy40 {P:Prop} (h:P:=by
 refine sD ?_;exact zap [(0,some 950)] rfl rfl trivial rfl rfl ⟨⟨rfl,.inl ⟨950,rfl,rfl⟩⟩,trivial⟩):P:=h
theorem yy135 {P:Prop} (h:P:=by
 (try refine sG ?_)
 refine sF ?_;refine hQ _ _ ?_;conv=>whnf
 exact ⟨⟨(A++[x],B),zae h⟩,(zax [(900,some 900)] zz9),by simp⟩):P:=h
theorem yy130 {P:Prop} (h:P:=by
 (try refine sG ?_)
 refine sF ?_;refine hQ _ _ ?_;conv=>whnf
 exact ⟨⟨(A++[v],B),zae g⟩,(zax [(2,some 2),(3,some 3)] zz96),by simp⟩):P:=h
theorem yy79 {P:Prop} (h:P:=by
 (try refine sG ?_)
 refine sF ?_;refine hQ _ _ ?_;conv=>whnf
 exact ⟨⟨(A++[a],B),zae g⟩,(zax [(3,some 3)] zz9),by simp⟩):P:=h
theorem yy57 {P:Prop} (h:P:=by
 refine sD ?_;refine sF ?_;refine hQ3 _ _ (zw ?_);exact ⟨⟨k+1,by omega,hkn.trans (zkk hm hms)⟩,(zbe [(14,some 14)]),by show T.length-(k+1)<T.length-k;omega⟩):P:=h
theorem yy75 {P:Prop} (h:P:=by
 (try refine sG ?_)
 refine sF ?_;refine hQ2 _ _ (zw ?_);exact ⟨⟨(X++[m],Y),zae g2⟩,(zax [(6,some 6),(7,some 7)] zz9),by simp⟩):P:=h
theorem yy97 {P:Prop} (h:P:=by
 (try refine sG ?_)
 refine sF ?_;refine hQ _ _ ?_;conv=>whnf
 exact ⟨⟨(A++[a],B),zae g,fun b hb=>by
  rcases zy21.1 hb with hb | hb
  . exact hA b hb
  . rw [zy23] at hb;subst hb;omega⟩,(zbe []),by simp⟩):P:=h
theorem yy136 {P:Prop} (h:P:=by
 (try refine sG ?_)
 refine sF ?_;refine hQ2 _ _ (zw ?_);exact ⟨⟨((A++[a],B),n),zae g,hn.trans hn2,hnT⟩,(zbe []),by simp⟩):P:=h
theorem yy11 {P:Prop} (h:P:=by
 rintro ⟨k,hk,hkn⟩;refine zbx fun Q3 hQ3=>?_
 (conv=>whnf);by_cases c6:k<T.length
 case neg =>
  have hkT:k=T.length:=by omega
  have hf:zes T s0 L 0=false:=by rw [hn s0 hs0,zes,zy0 (fun h=>h.elim (fun h=>h d1) (by rw [d2];decide)),hne,hkn,zvx zz0,zy0 c6]
  have hf:=ydi hs0 hf;rw [hR] at hf;subst hf;refine zab (zy11 zz6) (zw ?_);refine sD ?_;refine hQ3 _ _ (zw ?_);refine zac (zy13.2 zz6) (zw ?_);refine hQ _ _ ?_;conv=>whnf
  try rfl
 obtain ⟨m,hm⟩:∃ m,T[k]?=some m:=⟨_,zy3 c6⟩
 have pa:=zsd m a;refine zac (zy9 zz6) (zw ?_);refine zam hm rfl (zw ?_);generalize hal:alk m.stream m.ordered m.data a.stream a.ordered a.data=w at pa
 (refine cL ?_;refine dLm pa ?_)
 cases w with
 | false =>
  (conv=>whnf);refine sD ?_;refine sF ?_;refine hQ3 _ _ (zw ?_);exact ⟨⟨k+1,by omega,hkn.trans (zkk hm hal)⟩,(zbe [(16,some 16),(901,some 901)]),by show T.length-(k+1)<T.length-k;omega⟩
 | true =>
 (conv=>whnf);refine sD ?_;refine hQ3 _ _ (zw ?_);refine zab (zy4.2 zz6) (zw ?_)
 (try refine sG ?_)
 refine sF ?_;refine ⟨_,(ycg _ _ _).symm,zw ?_⟩
 (try refine sG ?_)
 refine sF ?_;refine hQ _ _ ?_;conv=>whnf
 exact ⟨⟨((A++[a],B),upd E a.stream (k+1)),zae g,fun s hs4=>by
  rw [hn s hs4];dsimp only;rw [zvu];by_cases e:(s:Int)=a.stream
  . have e2:s=s0:=by omega
    subst e2;rw [zy1 e,zes,zy0 (fun h=>h.elim (fun h=>h d1) (by rw [d2];decide)),hne,hkn,zvy hm hal,zy1 c6];rfl
  . rw [zy0 e,zes,zy1 (.inl fun h=>e h.symm)],fun s=>by
  dsimp only;rw [zvu];have:=hE s;split<;>omega⟩,(zbe [(901,some 901)]),by simp⟩):P:=h
theorem yy43 {P:Prop} (h:P:=by
 (try refine sG ?_)
 refine sF ?_;refine hQ _ _ ?_;conv=>whnf
 exact ⟨⟨((A++[a],B),E),zae g,fun s hs4=>by rw [hn s hs4];dsimp only;rw [zes,zy1 (hsk s hs4)],hE⟩,(zbe [(901,some 901)]),by simp⟩):P:=h
theorem yy81 {P:Prop} (h:P:=by
 (try refine sG ?_)
 refine sF ?_;refine hQ3 _ _ (zw ?_);exact ⟨⟨(X++[b],Y),zae g3⟩,(zax [(7,some 7)] zz9),by simp⟩):P:=h
theorem yy7 {P:Prop} (h:P:=by
 repeat refine sG ?_
 refine ⟨{k:Nat // k<=s.had.length},fun | ⟨k,_⟩=>hs 127 [(2,qs q),(4,.ptr 4 0),(7,i64 s.had.length),(10,.own 900),(11,i64 (k+1))] [(4,.live (.cells 28 s.cells)),(900,yww ((List.range' 0 k).map fun i:Nat=>(s.last+1+(i:Int)).tmod s.had.length))],fun k=>s.had.length-k.1,⟨0,by omega⟩,?_,?_⟩
 . exact (zbe [(4,some 4),(900,none)])
 rintro ⟨k,hk⟩;refine zbx fun Q hQ=>?_
 (conv=>whnf);by_cases c:k<s.had.length
 . refine sT ?_
   refine sF ?_;refine sO ?_;refine zaa (c:=((((List.range' 0 k).map fun i:Nat=>(s.last+1+(i:Int)).tmod s.had.length).map fun n=>[pi n]).length+1)*8<=140737488355328) zz3 (zw ?_)
   (try refine sG ?_)
   refine sF ?_;refine hQ _ _ ?_;conv=>whnf
   exact ⟨⟨k+1,c⟩,(zax [(4,some 4),(900,some 62)] zz25),by dsimp only;omega⟩
 . refine sN ?_
   refine hQ _ _ ?_;conv=>whnf
   have hkk:k=s.had.length:=by omega
   subst hkk;rw [hafter];obtain ⟨O,hO⟩:∃ O,O=((List.range' 0 s.had.length).map fun i:Nat=>(s.last+1+(i:Int)).tmod s.had.length):=⟨_,rfl⟩
   rw [<- hO];generalize hN:pick q O=N;have hOl:O.length=s.had.length:=by rw [hO];simp
   refine ⟨{x:List Int×List Int // (O)=x.1++x.2/\pick q x.2=N},fun | ⟨(a,b),_⟩=>hs 127 [(2,qs q),(114,.own 900),(115,i64 (O).length),(116,i64 a.length)] [(900,yww (O))],fun x=>x.1.2.length,⟨([],O),rfl,hN⟩,?_,?_⟩
   . exact (zax [(900,some 900)] zz40)
   rintro ⟨⟨a,b⟩,h,hp⟩;dsimp only at h hp;refine zbx fun Q hQ=>?_
   cases b with
   | cons k b =>
    have hz:=zay h;rw [pick] at hp;(conv=>whnf);refine zac zz111 (zw ?_);refine sO ?_;refine zaj h rfl (zw ?_)
    (refine cL ?_;refine dL (znu q k hb) ?_)
    by_cases c:first q k>=0
    . rw [zy1 c] at hp
      refine zac zz70 (zw ?_);refine hQ _ _ ?_;conv=>whnf
      rw [hp]
    . rw [zy0 c] at hp
      refine zab zz70 (zw ?_)
      (try refine sG ?_)
      refine sFm ?_;refine hQ _ _ ?_;conv=>whnf
      exact ⟨⟨(a++[k],b),zae h,hp⟩,(zbe [(900,some 900)]),by simp⟩
   | nil =>
    have hz:=zbk h;(conv=>whnf);refine zab zz101 (zw ?_);refine hQ _ _ ?_;conv=>whnf
    rw [<- hp];rfl):P:=h
theorem yy9 {P:Prop} (h:P:=by
 rintro ⟨⟨a,b⟩,h,hp⟩;dsimp only at h hp;refine zbx fun Q hQ=>?_
 cases b with
 | cons k b =>
  have hz:=zay h;rw [pick] at hp;(conv=>whnf);refine zac zz111 (zw ?_);refine sO ?_;refine zaj h rfl (zw ?_)
  (refine cL ?_;refine dL (znu q k hb) ?_)
  by_cases c:first q k>=0
  . rw [zy1 c] at hp
    refine zac zz70 (zw ?_);refine hQ _ _ ?_;conv=>whnf
    rw [hp]
  . rw [zy0 c] at hp
    refine zab zz70 (zw ?_)
    (try refine sG ?_)
    refine sFm ?_;refine hQ _ _ ?_;conv=>whnf
    exact ⟨⟨(a++[k],b),zae h,hp⟩,(zbe [(900,some 900)]),by simp⟩
 | nil =>
  have hz:=zbk h;(conv=>whnf);refine zab zz101 (zw ?_);refine hQ _ _ ?_;conv=>whnf
  rw [<- hp];rfl):P:=h
theorem yy12 {P:Prop} (h:P:=by
 rintro ⟨⟨a,b⟩,h⟩;dsimp only at h;cases b with
 | cons n b =>
  have hz:=zay h;have hsn:(a++[n]).mapIdx (fun k n=>if (k:Int)=m.message.stream then W (n+bytes) else n)=(a.mapIdx fun k n=>if (k:Int)=m.message.stream then W (n+bytes) else n)++[if (a.length:Int)=m.message.stream then W (n+bytes) else n]:=by rw [zy102]
  (conv=>whnf);refine sT ?_;refine zaj h rfl (zw ?_)
  repeat refine sG ?_
  by_cases c:(a.length:Int)=m.message.stream
  . rw [zy1 c] at hsn
    refine zac zz70 (zw ?_)
    (try refine sG ?_)
    refine zce (zw ?_)
    (try refine sG ?_)
    refine zaa (c:=(((a.mapIdx fun k n=>if (k:Int)=m.message.stream then W (n+bytes) else n).map fun n=>[pi n]).length+1)*8<=140737488355328) zz3 (zw ?_)
    (try refine sG ?_)
    refine sF ?_;exact ⟨⟨(a++[n],b),zae h⟩,(zax [(5,some 5),(8,some 8),(9,some 9),(900,some 40)] zz31),by simp⟩
  . rw [zy0 c] at hsn
    refine zab zz70 (zw ?_)
    (try refine sG ?_)
    refine zaa (c:=(((a.mapIdx fun k n=>if (k:Int)=m.message.stream then W (n+bytes) else n).map fun n=>[pi n]).length+1)*8<=140737488355328) zz3 (zw ?_)
    (try refine sG ?_)
    refine sF ?_;exact ⟨⟨(a++[n],b),zae h⟩,(zax [(5,some 5),(8,some 8),(9,some 9),(900,some 40)] zz31),by simp⟩
 | nil =>
  have hz:=zbk h;rw [zy5] at h;(conv=>whnf);refine sN ?_;rw [h]
  try rfl):P:=h
theorem yy110 {P:Prop} (h:P:=by
 (try refine sG ?_)
 refine sF ?_;refine hQ _ _ ?_;conv=>whnf
 exact ⟨⟨(k+1,(k:Int)),c7,.inr zz83,g3⟩,(zbe [(4,some 4),(900,some 900),(901,some 901)]),by dsimp only;omega⟩):P:=h
theorem yy37 {P:Prop} (h:P:=by
 refine sN ?_;refine zaa (c:=(((a.map (age high)).map zbo.row).length+1)*200<=140737488355328) om (zw ?_);refine sF ?_;exact ⟨⟨(a++[s],b),zae h⟩,(zax [(900,some 900),(901,some 901),(902,some 130),(903,some 903)] zz22),by simp⟩):P:=h
theorem yy46 {P:Prop} (h:P:=by
 refine sT ?_;refine zaa (c:=((out.map zbo.row).length+1)*200<=140737488355328) om (zw ?_);refine sF ?_;exact ⟨⟨_,hnx⟩,(zax [(6,some 6),(900,some 900),(901,some 97)] zz14),by simp⟩):P:=h
theorem yy80 {P:Prop} (h:P:=by
 refine sO ?_;refine zca s.path.toNat zz0 zz0 (zw ?_);refine sR ?_;refine sO ?_;refine zca s.path.toNat zz0 zz0 (zw ?_);refine sD ?_;refine sN ?_;refine sF ?_;exact ⟨⟨_,hnx⟩,(zax [(6,some 6),(900,some 900),(901,some 901)] zz14),by simp⟩):P:=h
theorem yy105 {P:Prop} (h:P:=by
 show HV.tup [_,_,.p (.sl 1 (List.replicate paths.toNat [pi 0])),_]=_;rw [show List.replicate paths.toNat [pi 0]=(List.replicate paths.toNat (0:Int)).map fun n=>[pi n] by rw [zy74]]
 rfl):P:=h
theorem yy65 {P:Prop} (h:P:=by
 rw [zy0 hm] at hlast;(conv=>whnf);refine sF ?_;exact ⟨⟨(c++[x],d,t),zae hcd,by simpa using hlast⟩,(zbe [(9,some 9),(900,some 900)]),by simp⟩):P:=h
theorem yy122 {P:Prop} (h:P:=by
 rw [zy1 hm] at hlast;(conv=>whnf);refine sF ?_;exact ⟨⟨(c++[x],d,c.length),zae hcd,by simpa using hlast⟩,(zbe [(9,some 9),(900,some 900)]),by simp⟩):P:=h
theorem yy139 {P:Prop} (h:P:=by
 (try refine sG ?_)
 refine sF ?_;exact ⟨⟨(a++[y],b),zae h'⟩,(zax ((2,some 2)::((4,some 4)::(pJ3 []))) zz46),by simp⟩):P:=h
theorem yy147 {P:Prop} (h:P:=by
 (try refine sG ?_)
 ((refine zdd ?_;(conv=>whnf);refine ⟨_,hp,rfl,?_⟩;conv=>whnf);try refine sG ?_)
 try rfl):P:=h
namespace Go.HL
namespace Jn
open Srt
def zmn (n:Nat):Nat->List zav->Option (List UInt8)
 | _,[]=>some []
 | i,p::r=>if p.chunk.part=(i:Int)/\p.chunk.last=decide (i+1=n) then (zmn n (i+1) r).map (p.chunk.data++·) else none
def join (l:List zav):Option (List UInt8):=if l=[] then none else zmn l.length 0 (srt ck l)
def at_ (k:Nat) (p:zav):Bool:=decide (p.chunk.part=(k:Int))
def zid (l:List zav) (n:Nat):Nat->Nat->Option (List UInt8)
 | _,0=>some []
 | k,m+1=>match l.filter (at_ k) with
  | [p]=>if p.chunk.last=decide (k+1=n) then (zid l n (k+1) m).map (p.chunk.data++·) else none
  | _=>none
theorem filter_one {α:Type} {f:α->Bool} {l l':List α} (h:l.Perm l') (p:α):l.filter f=[p]↔l'.filter f=[p]:=by
 have:=h.filter f
 constructor
 . intro e;rw [e] at this;exact List.perm_singleton.1 this.symm
 . intro e;rw [e] at this;exact List.perm_singleton.1 this
theorem ywt {l l':List zav} (h:l.Perm l') (n:Nat):∀ (m k:Nat),zid l n k m=zid l' n k m
 | 0,k=>rfl
 | m+1,k=>by
  have hf:=fun p=>filter_one (f:=at_ k) h p
  rw [zid,zid];split
  . rename_i p hp
    rw [(hf p).1 hp,ywt h n m (k+1)]
  . rename_i hno
    split
    . rename_i p hp
      exact absurd ((hf p).2 hp) (hno p)
    . rfl
theorem ywu {l:List zav} {n:Nat}:∀ {m k:Nat} {b:List UInt8},zid l n k m=some b->∀ i,k<=i->i<k+m->∃ p∈l,p.chunk.part=(i:Int)
 | 0,k,b,_,i,h1,h2=>by omega
 | m+1,k,b,h,i,h1,h2=>by
  rw [zid] at h;split at h
  . rename_i p hp
    split at h
    . obtain ⟨c,hc,-⟩:=zy31.1 h
      by_cases he:i=k
      . subst he
        have:p∈l.filter (at_ i):=by rw [hp];simp
        rw [zy136] at this;exact ⟨p,this.1,by simpa [at_] using this.2⟩
      . exact ywu hc i zz0 zz0
    . cases h
  . cases h
def yvm (l:List zav) (k:Nat):Nat:=l.countP fun p=>decide (p.chunk.part<(k:Int))
def xgs (l:List zav) (k:Nat):Nat:=l.countP fun p=>decide ((k:Int)<=p.chunk.part)
theorem xah (l:List zav) (k:Nat):yvm l k+xgs l k=l.length:=by
 induction l with
 | nil=>rfl
 | cons p l ih =>
  simp only [yvm,xgs,zy148,zy6] at *
  by_cases h:p.chunk.part<(k:Int)
  . have h2:¬ (k:Int)<=p.chunk.part:=by omega
    simp [h,h2];omega
  . have h2:(k:Int)<=p.chunk.part:=by omega
    simp [h,h2];omega
theorem yny {l:List zav} {k:Nat} (h:∃ p∈l,p.chunk.part=(k:Int)):yvm l k+1<=yvm l (k+1):=by
 induction l with
 | nil=>simp at h
 | cons p l ih =>
  have mono:∀ l:List zav,l.countP (fun p=>decide (p.chunk.part<(k:Int)))<=l.countP (fun p=>decide (p.chunk.part<((k+1:Nat):Int))):=fun l=>List.countP_mono_left fun x _ hx=>by simp at hx ⊢;omega
  simp only [yvm,zy148] at ih ⊢;by_cases he:p.chunk.part=(k:Int)
  . have:=mono l
    have h2:¬ p.chunk.part<(k:Int):=by omega
    have h3:p.chunk.part<((k+1:Nat):Int):=by omega
    rw [zy0 (by simpa using h2),zy1 (zy9 h3)];omega
  . have:∃ p∈l,p.chunk.part=(k:Int):=by
     obtain ⟨q,hq,e⟩:=h;rcases zy14.1 hq with rfl | hq
     . exact absurd e he
     . exact ⟨q,hq,e⟩
    have:=ih this;by_cases h2:p.chunk.part<(k:Int)
    . have h3:p.chunk.part<((k+1:Nat):Int):=by omega
      rw [zy1 (zy9 h2),zy1 (zy9 h3)];omega
    . have h3:¬ p.chunk.part<((k+1:Nat):Int):=by omega
      rw [zy0 (by simpa using h2),zy0 (fun h=>h3 (zy25 h))];omega
theorem xcp {l:List zav} {n:Nat} (h:∀ i,i<n->∃ p∈l,p.chunk.part=(i:Int)):∀ k,k<=n->k<=yvm l k
 | 0,_=>zy107 _
 | k+1,hk=>by have:=xcp h k zz0;have:=yny (h k zz0);omega
theorem xcq {l:List zav} {n:Nat} (hn:l.length=n) (h:∀ i,i<n->∃ p∈l,p.chunk.part=(i:Int)):∀ j,j<=n->yvm l (n-j)<=n-j
 | 0,_=>by have:=xah l n;simp only [Nat.sub_zero];omega
 | j+1,hj=>by
  have h1:=xcq hn h j zz0;have h2:=yny (h (n-(j+1)) zz0);rw [show n-(j+1)+1=n-j by omega] at h2;omega
theorem ycl:∀ {S:List zav} (_:Sd ck S) (k:Nat) (i:Nat) (hi:i<S.length),(S[i].chunk.part<(k:Int)↔i<yvm S k)
 | x::S,h,k,0,hi=>by
  simp only [yvm,zy148,List.getElem_cons_zero];by_cases hx:x.chunk.part<(k:Int)
  . simp [hx]
  . have:S.countP (fun p=>decide (p.chunk.part<(k:Int)))=0:=List.countP_eq_zero.2 fun y hy=>by have:=h.1 y hy;simp;simp only [ck] at this;omega
    simp [hx,this]
 | x::S,h,k,i+1,hi=>by
  have ih:=ycl h.2 k i (by simpa using hi);simp only [yvm,zy148,List.getElem_cons_succ] at *
  by_cases hx:x.chunk.part<(k:Int)
  . simp [hx];exact ih
  . have:S.countP (fun p=>decide (p.chunk.part<(k:Int)))=0:=List.countP_eq_zero.2 fun y hy=>by have:=h.1 y hy;simp;simp only [ck] at this;omega
    rw [this] at ih ⊢;simp [hx];omega
theorem yja {S:List zav} (hs:Sd ck S) (h:∀ i,i<S.length->∃ p∈S,p.chunk.part=(i:Int)) (i:Nat) (hi:i<S.length):S[i].chunk.part=(i:Int):=by
 have e:∀ k,k<=S.length->yvm S k=k:=fun k hk=>by
  have h1:=xcp h k hk;have h2:=xcq rfl h (S.length-k) zz0;rw [show S.length-(S.length-k)=k by omega] at h2;omega
 have h1:=ycl hs i i hi;have h2:=ycl hs (i+1) i hi;rw [e i (by omega)] at h1;rw [e (i+1) (by omega)] at h2;omega
def zyf (i:Nat):List zav->Prop
 | []=>True
 | p::r=>p.chunk.part=(i:Int)/\zyf (i+1) r
theorem yfu:∀ {S:List zav} {i:Nat},(∀ j (hj:j<S.length),S[j].chunk.part=((i+j:Nat):Int))->zyf i S
 | [],_,_=>trivial
 | p::r,i,h=>⟨by have:=h 0 zz5;simp only [List.getElem_cons_zero,zy88] at this;exact this,yfu fun j hj=>by have:=h (j+1) zz131;rw [List.getElem_cons_succ] at this;rw [this];congr 1;omega⟩
theorem yft:∀ {S:List zav} {i:Nat},zyf i S->∀ p∈S,(i:Int)<=p.chunk.part
 | q::r,i,h,p,hp=>by
  rcases zy14.1 hp with rfl | hp
  . rw [h.1];omega
  . have:=yft h.2 p hp;omega
theorem zyz {n:Nat}:∀ {S:List zav} {i:Nat} {b:List UInt8},zmn n i S=some b->zyf i S
 | [],_,_,_=>trivial
 | p::r,i,b,h=>by
  rw [zmn] at h;split at h
  . rename_i c
    obtain ⟨d,hd,-⟩:=zy31.1 h;exact ⟨c.1,zyz hd⟩
  . cases h
theorem filter_none {A:List zav} {k:Nat} (h:∀ p∈A,p.chunk.part≠(k:Int)):A.filter (at_ k)=[] :=
 List.filter_eq_nil_iff.2 fun p hp=>by simpa [at_] using h p hp
theorem ykw {S:List zav} {n:Nat}:∀ {B A:List zav} {i:Nat},S=A++B->(∀ p∈A,p.chunk.part<(i:Int))->zyf i B->zid S n i B.length=zmn n i B
 | [],A,i,_,_,_=>rfl
 | p::B,A,i,hS,hA,hB=>by
  have hf:S.filter (at_ i)=[p]:=by
   rw [hS,zy45,filter_none fun q hq=>by have:=hA q hq;omega,zy49,zy1 (by simpa [at_] using hB.1),filter_none fun q hq=>by have:=yft hB.2 q hq;omega]
   rfl
  rw [zy6,zid,hf];have ih:=ykw (S:=S) (n:=n) (B:=B) (A:=A++[p]) (i:=i+1) (by rw [hS];simp) (fun q hq=>by
   rcases zy21.1 hq with hq | hq
   . have:=hA q hq;omega
   . rw [zy23.1 hq,hB.1];omega) hB.2
  dsimp only;rw [ih,zmn];by_cases c:p.chunk.last=decide (i+1=n)
  . rw [zy1 c,zy1 ⟨hB.1,c⟩]
  . rw [zy0 c,zy0 fun h=>c h.2]
theorem xir (l:List zav):zid l l.length 0 l.length=zmn l.length 0 (srt ck l):=by
 have hl:=zkt (key:=ck) l;rw [ywt (zqv (key:=ck) (l:=l)).symm];have hs:=ztp (key:=ck) (l:=l);generalize srt ck l=S at *
 rw [<- hl];clear hl;cases hr:zid S S.length 0 S.length with
 | some b =>
  have:=yja hs fun i hi=>ywu hr i zz0 zz0
  have ht:zyf 0 S:=yfu fun j hj=>by rw [this j hj];simp
  rw [<- hr];exact ykw (A:=[]) rfl zz5 ht
 | none =>
  cases hj:zmn S.length 0 S with
  | none=>rfl
  | some b =>
   have:=ykw (S:=S) (n:=S.length) (A:=[]) rfl zz5 (zyz hj);rw [hr,hj] at this;cases this
def tot (l:List zav):Nat:=(l.map fun p=>p.chunk.data.length).sum
theorem ypi {l l':List zav} (h:l.Perm l'):tot l=tot l':=(h.map _).sum_nat
theorem zfj (p:zav) (l:List zav):tot (p::l)=p.chunk.data.length+tot l:=rfl
theorem zmz (a b:List zav):tot (a++b)=tot a+tot b:=by simp [tot]
theorem yyo {l:List zav} {p:zav} (h:p∈l):p.chunk.data.length<=tot l:=by
 induction l with
 | nil=>cases h
 | cons q l ih =>
  rw [zfj];rcases zy14.1 h with rfl | h
  . omega
  . have:=ih h;omega
def cat (l:List zav):List UInt8:=(l.map fun p=>p.chunk.data).flatten
theorem ymd (l:List zav) (p:zav):cat (l++[p])=cat l++p.chunk.data:=by simp [cat]
theorem xdm (l:List zav):(cat l).length=tot l:=by induction l with
 | nil=>rfl
 | cons p l ih=>rw [zfj,<- ih];simp [cat]
abbrev pieces (l:List zav):HV:=.p (.sl 12 (l.map zav.row))
theorem zzx (n:Int):zan Tryz.prog 214 [i64 n] zad (zbj false) zad:=by
 refine zal mixed Tryz.func214 zz4 ?_;(conv=>whnf);simp
theorem yhu (a b:Int):zan Tryz.prog 209 [i64 a,i64 b] zad (i64 (if a<b then -1 else if a>b then 1 else 0)) zad:=by
 refine zal mixed Tryz.func209 zz4 ?_;(conv=>whnf)
 (refine cL ?_;refine dL (zzx a) ?_)
 (refine cL ?_;refine dL (zzx b) ?_)
 by_cases c:a<b
 . rw [zy1 c]
   ((refine yqj ?_;conv=>whnf);try refine sG ?_)
 rw [zy0 c];refine sN ?_;by_cases c2:a>b
 . rw [zy1 c2]
   ((refine yqj ?_;conv=>whnf);try refine sG ?_)
 rw [zy0 c2]
 ((refine yun ?_;conv=>whnf);try refine sG ?_)
theorem yct:ydu 208:=fun a b=>by
 refine zal mixed Tryz.func208 zz4 ?_;(conv=>whnf)
 (refine cL ?_;refine dL (yhu a.chunk.part b.chunk.part) ?_)
 rfl
theorem ydh {x:HV} {a b:Bool} (h:a=b):HV.tup [x,zbj a]=HV.tup [x,zbj b]:=by rw [h]
theorem yed (l:List zav) (hb:l.length<2 ^ 39):zan Tryz.prog 206 [.p (.sl 12 (l.map zav.row))] zad (.own 0) (lk .free [(0,.live (.row 162 12 (l.map zav.row)))]):=by
 refine zaq mixed Tryz.func206 zz4 [] (fun _=>.inl rfl) ?_;(conv=>whnf);intro b hn;(conv=>whnf);refine zah (fun c=>?_) (fun c=>?_)
 . conv=>whnf
   exact yy25
 . conv=>whnf
   refine zaa (c:=(([]:List (List PV)).length+(l.map zav.row).length)*136<=140737488355328) zz3 ?_;exact yy20
theorem yxn (l:List zav) (hb:l.length<2 ^ 38) (ht:tot l<2 ^ 40) :
 zan Tryz.prog 200 [pieces l] zad (.tup [.own 0,zbj (join l).isSome]) (lk .free [(0,.live (.row 5 1 (((join l).getD []).map zco)))]):=by
 refine zaq mixed Tryz.func200 zz4 [] (fun _=>.inl rfl) ?_;(conv=>whnf)
 (refine zat [(0,9)] ?_;(conv=>whnf);refine dO (yed l zz0) ?_)
 (refine zaf [] [(1000,9)] [] ?_;(conv=>whnf);refine dG (yyc yct l zz0) ?_)
 have hl:=zkt (key:=ck) l;have ht2:tot (srt ck l)<2 ^ 40:=by rw [ypi zqv];exact ht
 obtain ⟨S,hS⟩:∃ S,S=srt ck l:=⟨_,rfl⟩
 have hj:join l=if l=[] then none else zmn S.length 0 S:=by rw [join,<- hS,<- hl,hS]
 rw [<- hS] at hl ht2;refine ⟨{x:List zav×List zav // S=x.1++x.2/\zmn S.length 0 S=(zmn S.length x.1.length x.2).map (cat x.1++·)},fun | ⟨(A,B),_⟩=>hs 45 [(4,.own 900),(5,.own 901),(12,.own 900),(13,i64 S.length),(14,i64 A.length)] [(900,.live (.row 162 12 (S.map zav.row))),(901,.live (.row 5 1 ((cat A).map zco)))],fun x=>x.1.2.length,⟨([],S),rfl,by simp [cat]⟩,?_,?_⟩
 . exact (zax [(900,some 9),(901,none)] (by repeat' (first | exact z0 | refine z1 ?_ | refine ⟨?_,?_⟩ | ((exact zbl (by rw [zy2,hS]))) | ((exact zar (by rw [hS]))) | exact z2)))
 rintro ⟨⟨A,B⟩,h,hr⟩;dsimp only at h hr;have hAB:S.length=A.length+B.length:=by rw [h];simp
 have htA:tot S=tot A+tot B:=by rw [h,zmz]
 (conv=>whnf);cases B with
 | nil =>
  rw [zy12] at hAB;rw [zmn] at hr;have hcat:zmn S.length 0 S=some (cat A):=by rw [hr];simp
  have h0:tot []=0:=rfl;refine sN ?_;by_cases hln:l=[]
  . subst hln
    have hl0:S.length=0:=hl;have:A=[]:=zy15 zz0;subst this;refine zap [(0,some 901)] rfl rfl trivial rfl (ydh ?_) ⟨⟨rfl,.inl ⟨901,rfl,rfl⟩⟩,trivial⟩;rw [zy2,hl0];rfl
  . have:=zy36.2 hln
    have hjv:join l=some (cat A):=by rw [hj,zy0 hln,hcat]
    rw [hjv];refine zap [(0,some 901)] rfl rfl trivial rfl (ydh ?_) ⟨⟨rfl,.inl ⟨901,rfl,rfl⟩⟩,trivial⟩;simp;omega
 | cons p B =>
  rw [zy6] at hAB;rw [zfj] at htA;rw [zmn] at hr;have hca:=xdm A;have hln:l≠[]:=fun h=>by subst h;have hl0:S.length=0:=hl;omega
  rw [zy0 hln] at hj;refine sT ?_;refine sO ?_;refine zaj h zz5 (zw ?_);have e:((A.length:Int)==((S.map zav.row).length:Int)-1)=decide (A.length+1=S.length):=by
   rw [zy2,zy110];simp;omega
  by_cases c1:p.chunk.part=(A.length:Int)
  . refine zab zz150 (zw ?_)
    refine sF ?_;by_cases c2:p.chunk.last=decide (A.length+1=S.length)
    . rw [zy1 ⟨c1,c2⟩] at hr
      refine zab (by rw [e,c2];simp) (zw ?_)
      try refine sG ?_
      refine zaa (c:=(((cat A).map zco).length+(p.chunk.data.map zco).length)*1<=140737488355328) zz3 (zw ?_)
      try refine sG ?_
      refine sF ?_;refine ⟨⟨(A++[p],B),by rw [h];simp,by dsimp only;rw [hr,Option.map_map,zy10,zy69];congr 1;funext x;simp [ymd]⟩,(zax [(900,some 900),(901,some 39)] (by repeat' (first | exact z0 | refine z1 ?_ | refine ⟨?_,?_⟩ | ((exact zar (by rw [ymd];simp))) | exact z2))),by simp⟩
    . rw [zy0 fun h=>c2 h.2] at hr
      have hjv:join l=none:=by rw [hj,hr];rfl
      refine zac (by rw [e];cases hp:p.chunk.last<;>cases hd:decide (A.length+1=S.length)<;>simp_all) (zw ?_);exact yy38
  . rw [zy0 fun h=>c1 h.1] at hr
    have hjv:join l=none:=by rw [hj,hr];rfl
    refine zac zz39 ?_;conv=>whnf
    exact yy38
def Found (k:Nat) (a:List zav) (z:Int):Prop:=(a.filter (at_ k)=[]/\z=-1)\/∃ a1 p a2,a=a1++p::a2/\z=(a1.length:Nat)/\a.filter (at_ k)=[p]
theorem yrv (l:List zav) (hb:l.length<2 ^ 22) (ht:tot l<2 ^ 22) :
 zan Tryz.prog 193 [pieces l] zad (.tup [.own 0,zbj (join l).isSome]) (lk .free [(0,.live (.row 5 1 (((join l).getD []).map zco)))]):=by
 refine zaq mixed Tryz.func193 zz4 [] (fun _=>.inl rfl) ?_;have hj:join l=if l=[] then none else zid l l.length 0 l.length:=by rw [join,xir]
 (conv=>whnf);refine ⟨{x:Nat×Nat×List UInt8 // x.1+x.2.1=l.length/\zid l l.length 0 l.length=(zid l l.length x.1 x.2.1).map (x.2.2++·)/\x.2.2.length<=x.1*4194304},fun | ⟨(k,m,acc),_⟩=>hs 59 [(0,pieces l),(4,.own 900),(10,i64 l.length),(11,i64 k)] [(900,.live (.row 5 1 (acc.map zco)))],fun x=>x.1.2.1,⟨(0,l.length,[]),by simp,by simp,by simp⟩,?_,?_⟩
 . exact (zbe [(900,none)])
 rintro ⟨⟨k,m,acc⟩,h1,h2,h3⟩;dsimp only at h1 h2 h3;(conv=>whnf);cases m with
 | zero =>
  rw [zid] at h2;refine sN ?_;by_cases hln:l=[]
  . subst hln
    have:acc=[]:=zy15 (by have:k=0:=h1;omega);subst this;refine zap [(0,some 900)] rfl rfl trivial rfl (ydh ?_) ⟨⟨rfl,.inl ⟨900,rfl,rfl⟩⟩,trivial⟩
    rfl
  . have:=zy36.2 hln
    have hjv:join l=some acc:=by rw [hj,zy0 hln,h2];simp
    rw [hjv];refine zap [(0,some 900)] rfl rfl trivial rfl (ydh ?_) ⟨⟨rfl,.inl ⟨900,rfl,rfl⟩⟩,trivial⟩;simp;omega
 | succ m =>
  have hln:l≠[]:=fun h=>by subst h;have h1:k+(m+1)=0:=h1;omega
  rw [zy0 hln] at hj;rw [zid] at h2;refine sT ?_;refine ⟨{x:(List zav×List zav)×Int // l=x.1.1++x.1.2/\Found k x.1.1 x.2},fun | ⟨((a,b),z),_⟩=>hs 59 [(0,pieces l),(4,.own 900),(5,i64 k),(6,i64 z),(10,i64 l.length),(11,i64 k),(14,pieces l),(15,i64 l.length),(16,i64 a.length)] [(900,.live (.row 5 1 (acc.map zco)))],fun x=>x.1.1.2.length,⟨(([],l),-1),rfl,.inl ⟨rfl,rfl⟩⟩,?_,?_⟩
  . exact (zbe [(900,some 900)])
  rintro ⟨⟨⟨a,b⟩,z⟩,g1,g2⟩;dsimp only at g1 g2;have hl:l.length=a.length+b.length:=by rw [g1];simp
  (conv=>whnf);cases b with
  | cons p b =>
   rw [zy6] at hl;refine sT ?_;refine zaj g1 zz5 (zw ?_);by_cases c:p.chunk.part=(k:Int)
   . have hat:at_ k p=true:=by simpa [at_] using c
     refine zac zz70 (zw ?_)
     try refine sG ?_
     rcases g2 with ⟨f1,rfl⟩ | ⟨a1,q,a2,f1,rfl,f2⟩
     . conv=>whnf
       try refine sG ?_
       refine sF ?_;exact ⟨⟨((a++[p],b),(a.length:Nat)),by rw [g1];simp,.inr ⟨a,p,[],by simp,rfl,by rw [zy45,f1,zy49,zy1 hat];rfl⟩⟩,(zbe [(900,some 900)]),by simp⟩
     . have hjv:join l=none:=by
        rw [hj,h2,g1,zy45,f2,zy49,zy1 hat];rfl
       (conv=>whnf);exact yy38
   . have hat:¬ at_ k p=true:=by simpa [at_] using c
     refine zab zz70 (zw ?_)
     try refine sG ?_
     refine sF ?_;refine ⟨⟨((a++[p],b),z),by rw [g1];simp,?_⟩,(zbe [(900,some 900)]),by simp⟩;rcases g2 with ⟨f1,f0⟩ | ⟨a1,q,a2,f1,f0,f2⟩
     . exact .inl ⟨by rw [zy45,f1,zy49,zy0 hat];rfl,f0⟩
     . exact .inr ⟨a1,q,a2++[p],by rw [f1];simp,f0,by rw [zy45,f2,zy49,zy0 hat];rfl⟩
  | nil =>
   rw [zy12] at hl;rw [zy5] at g1;refine sN ?_;rcases g2 with ⟨f1,rfl⟩ | ⟨a1,q,a2,f1,rfl,f2⟩
   . have hjv:join l=none:=by rw [hj,h2,g1,f1];rfl
     (conv=>whnf);exact yy38
   . have hq:q.chunk.data.length<=tot l:=yyo (by rw [g1,f1];simp)
     have e:((k:Int)==((l.map zav.row).length:Int)-1)=decide (k+1=l.length):=by
      rw [zy2,zy110];simp;omega
     rw [g1,f2] at h2;dsimp only at h2;rw [<- g1] at h2;(conv=>whnf);refine zaj (show l=a1++q::a2 by rw [g1,f1]) rfl (zw ?_);refine sF ?_;by_cases c2:q.chunk.last=decide (k+1=l.length)
     . rw [zy1 c2] at h2
       refine zab (by rw [e,c2];simp) (zw ?_)
       try refine sG ?_
       refine zaj (show l=a1++q::a2 by rw [g1,f1]) rfl (zw ?_);refine zaa (c:=((acc.map zco).length+(q.chunk.data.map zco).length)*1<=140737488355328) zz3 (zw ?_)
       try refine sG ?_
       refine sF ?_;refine ⟨⟨(k+1,m,acc++q.chunk.data),by dsimp only;omega,by dsimp only;rw [h2,Option.map_map];congr 1;funext x;simp,by simp;omega⟩,(zax [(900,some 53)] zz95),by simp⟩
     . rw [zy0 c2] at h2
       have hjv:join l=none:=by rw [hj,h2];rfl
       refine zac (by rw [e];cases hp:q.chunk.last<;>cases hd:decide (k+1=l.length)<;>simp_all) (zw ?_);exact yy38
end Jn
end Go.HL
namespace Go.HL
namespace Ser
def zjy:List Span->Prop
 | []=>True
 | s::r=>s.lo<=s.hi/\-9223372036854775808<=s.lo/\s.hi<=9223372036854775807/\(∀ t∈r,s.hi+1<t.lo)/\zjy r
theorem zhk:∀ {a b:List Span},zjy (a++b)↔zjy a/\zjy b/\∀ s∈a,∀ t∈b,s.hi+1<t.lo
 | [],b=>by simp [zjy]
 | s::a,b=>by
  simp only [zy40,zjy,zhk (a:=a) (b:=b),zy21,zy14]
  constructor
  . rintro ⟨h1,h2,h3,h4,h5,h6,h7⟩
    exact ⟨⟨h1,h2,h3,fun t ht=>h4 t (.inl ht),h5⟩,h6,fun x hx t ht=>by rcases hx with rfl | hx;exact h4 t (.inr ht);exact h7 x hx t ht⟩
  . rintro ⟨⟨h1,h2,h3,h4,h5⟩,h6,h7⟩
    exact ⟨h1,h2,h3,fun t ht=>by rcases ht with ht | ht;exact h4 t ht;exact h7 s (.inl rfl) t ht,h5,h6,fun x hx t ht=>h7 x (.inr hx) t ht⟩
theorem zhl:∀ {l:List Span},zjy l->∀ s∈l,s.lo<=s.hi/\-9223372036854775808<=s.lo/\s.hi<=9223372036854775807
 | s::r,h,t,ht=>by
  rcases zy14.1 ht with rfl | ht
  . exact ⟨h.1,h.2.1,h.2.2.1⟩
  . exact zhl h.2.2.2.2 t ht
theorem yjx {l:List Span} {n:Int}:has l n=true↔∃ s∈l,s.lo<=n/\n<=s.hi:=by
 simp [has,zy98]
theorem yuk {l:List Span} {n:Int}:has l n=false↔∀ s∈l,¬ (s.lo<=n/\n<=s.hi):=by
 rw [<- zy147,yjx];simp
theorem ybh (a b:List Span) (n:Int):has (a++b) n=(has a n||has b n):=by simp [has]
theorem zud (s:Span) (b:List Span) (n:Int):has (s::b) n=((decide (s.lo<=n)&&decide (n<=s.hi))||has b n):=by simp [has]
def yqq (n:Int) (s:Span):Bool:=decide (s.hi<n)
def below (l:List Span) (n:Int):List Span:=l.takeWhile (yqq n)
def zfr (l:List Span) (n:Int):List Span:=l.dropWhile (yqq n)
def zty (n:Int) (a:List Span):List Span×Int:=match a.getLast? with
 | some s=>if s.hi=n-1 then (a.dropLast,s.lo) else (a,n)
 | none=>(a,n)
def zpd (n:Int):List Span->Int×List Span
 | t::r=>if t.lo=n+1 then (t.hi,r) else (n,t::r)
 | []=>(n,[])
def add (l:List Span) (n:Int):List Span :=
 if has l n then l else (zty n (below l n)).1++⟨(zty n (below l n)).2,(zpd n (zfr l n)).1⟩::(zpd n (zfr l n)).2
theorem split (l:List Span) (n:Int):l=below l n++zfr l n:=(List.takeWhile_append_dropWhile).symm
theorem zpm {l:List Span} {n:Int}:∀ s∈below l n,s.hi<n:=fun s hs=>by
 have:=zy56.1 (List.all_takeWhile (p:=yqq n) (l:=l)) s hs
 simpa [yqq] using this
theorem yaj {l:List Span} {n:Int} (h:zjy l) (hn:has l n=false):∀ s∈zfr l n,n<s.lo:=by
 intro s hs;have hsp:=split l n;have hr:zjy (zfr l n):=by rw [hsp] at h;exact (zhk.1 h).2.1
 have hno:∀ t∈zfr l n,¬ (t.lo<=n/\n<=t.hi):=fun t ht=>yuk.1 hn t (by rw [hsp];exact List.mem_append_right _ ht)
 have hhd:∀ t r,zfr l n=t::r->¬ t.hi<n:=by
  intro t r e hlt;have:=zy137 (yqq n) l;rw [show l.dropWhile (yqq n)=t::r from e] at this;simp [yqq] at this;omega
 cases ha:zfr l n with
 | nil=>rw [ha] at hs;simp at hs
 | cons t r =>
  have h1:=hhd t r ha;have h2:=hno t (by rw [ha];simp);rw [ha] at hr hs;have h3:=hr.1;rcases zy14.1 hs with rfl | hs
  . omega
  . have:=hr.2.2.2.1 s hs;omega
theorem ytd {l:List Span} {n:Int} (h:zjy l):∀ (i:Nat) (hi:i<l.length),l[i].hi<n↔i<(below l n).length:=by
 intro i hi;have hsp:=split l n
 constructor
 . intro hlt
   apply Classical.byContradiction;intro hge;have hmem:l[i]∈zfr l n:=by
    have e:l[i]?=(zfr l n)[i-(below l n).length]?:=by
     conv=>lhs;rw [hsp]
     exact zy44 zz0
    rw [zy3 hi] at e;exact zy20 e.symm
   have hr:zjy (zfr l n):=by rw [hsp] at h;exact (zhk.1 h).2.1
   cases ha:zfr l n with
   | nil=>rw [ha] at hmem;simp at hmem
   | cons t r =>
    have h1:¬ t.hi<n:=by
     exact yy149
    rw [ha] at hr hmem;rcases zy14.1 hmem with e | hm
    . rw [e] at hlt;exact h1 hlt
    . have h4:=hr.2.2.2.1 _ hm
      have h5:=(zhl hr.2.2.2.2 _ hm).1;have:=hr.1;omega
 . intro hlt
   have e:l[i]?=(below l n)[i]?:=by
    conv=>lhs;rw [hsp]
    exact zy46 hlt
   rw [zy3 hi] at e;exact zpm _ (zy20 e.symm)
theorem ytj {a:List Span} {n:Int} (h:zjy a) (hn:∀ s∈a,s.hi<n) :
 (zty n a).2<=n/\(∀ s∈(zty n a).1,s.hi+1<(zty n a).2)/\zjy (zty n a).1/\(-9223372036854775808<=n->-9223372036854775808<=(zty n a).2)/\∀ m,(has (zty n a).1 m||(decide ((zty n a).2<=m)&&decide (m<n)))=has a m:=by
 rcases zy111 a with rfl | ⟨a',s,rfl⟩
 . simp [zty,zjy,has]
   intro m hm;exact zy25 hm
 . rw [zy99] at h hn ⊢
   have hs:=hn s zz5;have hr:=zhk.1 h;have h3:∀ x∈a',x.hi+1<s.lo:=fun x hx=>hr.2.2 x hx s zz5
   have h4:=hr.2.1.1;simp only [zty,List.getLast?_concat];split
   . rename_i he
     simp only [List.dropLast_concat];refine ⟨by omega,h3,hr.1,fun _=>hr.2.1.2.1,fun m=>?_⟩;rw [ybh,zud];have:decide (m<n)=decide (m<=s.hi):=by rw [decide_eq_decide];omega
     rw [this];simp [has]
   . rename_i he
     refine ⟨zy70 _,fun x hx=>?_,h,fun h=>h,fun m=>?_⟩
     . rcases zy21.1 hx with hx | hx
       . have:=h3 x hx;dsimp only;omega
       . rw [zy23.1 hx];dsimp only;omega
     . have:(decide (n<=m)&&decide (m<n))=false:=by simp<;>omega
       dsimp only;rw [this,zy132]
theorem ytk {b:List Span} {n:Int} (h:zjy b) (hn:∀ s∈b,n<s.lo) :
 n<=(zpd n b).1/\(∀ s∈(zpd n b).2,(zpd n b).1+1<s.lo)/\zjy (zpd n b).2/\(n<=9223372036854775807->(zpd n b).1<=9223372036854775807)/\∀ m,(has (zpd n b).2 m||(decide (n<m)&&decide (m<=(zpd n b).1)))=has b m:=by
 cases b with
 | nil =>
  simp [zpd,zjy,has];intro m hm;exact zy11 zz0
 | cons t r =>
  have ht:=hn t zz5;simp only [zpd];split
  . rename_i he
    refine ⟨by have:=h.1;dsimp only;omega,h.2.2.2.1,h.2.2.2.2,fun _=>h.2.2.1,fun m=>?_⟩;rw [zud,Bool.or_comm];congr 2;rw [decide_eq_decide];omega
  . rename_i he
    refine ⟨zy70 _,fun x hx=>?_,h,fun h=>h,fun m=>?_⟩
    . rcases zy14.1 hx with rfl | hx
      . dsimp only;omega
      . have:=h.2.2.2.1 x hx;have:=h.1;dsimp only;omega
    . have:(decide (n<m)&&decide (m<=n))=false:=by simp
      dsimp only;rw [this,zy132]
theorem yam {l:List Span} {n:Int} (h:zjy l) (h1:-9223372036854775808<=n) (h2:n<=9223372036854775807):zjy (add l n)/\∀ m,has (add l n) m=(has l m||decide (m=n)):=by
 unfold add;cases hn:has l n with
 | true =>
  refine ⟨h,fun m=>?_⟩;by_cases hm:m=n
  . subst hm;simp [hn]
  . simp [hm]
 | false =>
  simp only [zy72,if_false];have hsp:=split l n;have hab:=h;rw [hsp] at hab;obtain ⟨ra,rb,rab⟩:=zhk.1 hab;obtain ⟨a1,a2,a3,a4,a5⟩:=ytj ra zpm;obtain ⟨b1,b2,b3,b4,b5⟩:=ytk rb (yaj h hn);have a4:=a4 h1;have b4:=b4 h2;have b6:∀ s∈(zpd n (zfr l n)).2,n<s.lo:=fun s hs=>by have:=b2 s hs;omega
  refine ⟨zhk.2 ⟨a3,⟨by dsimp only;omega,a4,b4,b2,b3⟩,fun s hs t ht=>?_⟩,fun m=>?_⟩
  . rcases zy14.1 ht with rfl | ht
    . exact a2 s hs
    . have:=a2 s hs;have:=b6 t ht;omega
  . have e:has l m=(has (below l n) m||has (zfr l n) m):=by rw [<- ybh,<- hsp]
    rw [ybh,zud,e,<- a5 m,<- b5 m];generalize has (zty n (below l n)).1 m=A;generalize has (zpd n (zfr l n)).2 m=B;dsimp only;rcases Int.lt_trichotomy m n with hlt | rfl | hgt
    . have e1:decide (m<n)=true:=by simpa using hlt
      have e2:decide (n<m)=false:=by simp;omega
      have e3:decide (m=n)=false:=by simp;omega
      have e4:decide (m<=(zpd n (zfr l n)).1)=true:=by simp;omega
      rw [e1,e2,e3,e4];simp [Bool.or_assoc,Bool.or_comm,Bool.or_left_comm]
    . have e4:decide (m<=(zpd m (zfr l m)).1)=true:=by simp;omega
      have e5:decide ((zty m (below l m)).2<=m)=true:=by simp;omega
      rw [e4,e5];simp
    . have e1:decide (m<n)=false:=by simp;omega
      have e2:decide (n<m)=true:=by simpa using hgt
      have e3:decide (m=n)=false:=by simp;omega
      have e4:decide ((zty n (below l n)).2<=m)=true:=by simp;omega
      rw [e1,e2,e3,e4];simp [Bool.or_assoc,Bool.or_comm,Bool.or_left_comm]
end Ser
namespace Ser
def cmp (n:Int) (s:Span):Int:=if s.hi<n then -1 else if s.lo>n then 1 else 0
theorem yct (n:Int) (s:Span):zan Tryz.prog 196 [s.hv,i64 n] zad (i64 (cmp n s)) zad:=by
 refine zal mixed Tryz.func196 zz4 ?_;(conv=>whnf);refine zah (fun c=>?_) (fun c=>?_)
 . have c:s.hi<n:=by simpa using c
   (conv=>whnf);rw [cmp,zy1 c]
 . have c:¬ s.hi<n:=by simpa using c
   (conv=>whnf);refine zah (fun c2=>?_) (fun c2=>?_)
   . have c2:s.lo>n:=by simpa using c2
     (conv=>whnf);rw [cmp,zy0 c,zy1 c2]
   . have c2:¬ s.lo>n:=by simpa using c2
     (conv=>whnf);rw [cmp,zy0 c,zy0 c2]
theorem xgg {n:Int} {s:Span}:cmp n s<0↔s.hi<n:=by
 unfold cmp;split
 . simp [*]
 . split<;>simp [*]
theorem found {l:List Span} {n:Int} (h:zjy l):zuz (cmp n) l (below l n).length=has l n:=by
 have hsp:=split l n;have e:l[(below l n).length]?=(zfr l n)[0]?:=by
  conv=>lhs;arg 1;rw [hsp]
  rw [zy44 (zy24 _),zy95]
 have e2:has l n=has (zfr l n) n:=by
  conv=>lhs;arg 1;rw [hsp]
  rw [ybh,yuk.2 fun s hs=>by have:=zpm s hs;omega,Bool.false_or]
 rw [zuz,e,e2];cases ha:zfr l n with
 | nil=>rfl
 | cons t r =>
  have hr:zjy (zfr l n):=by rw [hsp] at h;exact (zhk.1 h).2.1
  rw [ha] at hr;have h1:¬ t.hi<n:=by
   exact yy149
  have h2:has r n=false:=yuk.2 fun s hs=>by have:=hr.2.2.2.1 s hs;omega
  rw [zud,h2,zy132];show (cmp n t==0)=_;rw [cmp,zy0 h1];by_cases c:t.lo>n
  . rw [zy1 c,zy11 (by omega)];rfl
  . rw [zy0 c,zy9 (by omega),zy9 (by omega)];rfl
theorem zfs (l:List Span) (hb:l.length<2 ^ 40):zan Tryz.prog 150 [.p (.sl 2 (l.map Span.row))] zad (.own 0) (lk .free [(0,.live (.row 199 2 (l.map Span.row)))]):=by
 refine zaq mixed Tryz.func150 zz4 [] (fun _=>.inl rfl) ?_;(conv=>whnf);intro b hn;(conv=>whnf);refine zah (fun c=>?_) (fun c=>?_)
 . conv=>whnf
   exact yy25
 . conv=>whnf
   refine zaa (c:=(([]:List (List PV)).length+(l.map Span.row).length)*16<=140737488355328) zz3 ?_;exact yy20
theorem zgi {α:Type} (l:List α):l=[]\/∃ a x,l=a++[x]:=by
 rcases zy111 l with h | ⟨a,x,h⟩
 . exact .inl h
 . exact .inr ⟨a,x,by rw [h,zy99]⟩
theorem ziq (n:Int) (a:List Span) (s:Span):zty n (a++[s])=if s.hi=n-1 then (a,s.lo) else (a++[s],n):=by
 simp [zty]
theorem ycj {α:Type} {t n:Nat} {f:α->List PV} {a b:List α} {x y:α} {k:Nat} {r:List PV} (hk:k=a.length) (hr:f y=r) :
 zai.live (.row t n (((a++[x]++b).map f).set k r))=zai.live (.row t n ((a++[y]++b).map f)):=by
 rw [zy28,zy28];exact (zei hk hr).symm
theorem zzp {α:Type} {t n:Nat} {f:α->List PV} {a b:List α} (h:a=b):zai.live (.row t n (a.map f))=zai.live (.row t n (b.map f)):=by rw [h]
theorem yxi (A B:List Span) (n:Int) (hl:zjy (A++B)) (hA:below (A++B) n=A) (hB:zfr (A++B) n=B) (hb:(A++B).length<2 ^ 39) (h1:-9223372036854775808<=n) (h2:n<=9223372036854775807) :
 zan Tryz.prog 181 [zas (A++B),i64 n] zad (.own 0) (lk .free [(0,.live (.row 199 2 ((add (A++B) n).map Span.row)))]):=by
 refine zaq mixed Tryz.func181 zz4 [] (fun _=>.inl rfl) ?_;have hlen:(A++B).length=A.length+B.length:=zy10;have hf:=found (n:=n) hl;rw [hA] at hf;(conv=>whnf)
 (refine zat [(0,9)]  ?_;(conv=>whnf);refine dO (zfs (A++B) zz0) ?_)
 (refine cZ ?_;refine dL (xfi (yct n) (A++B) A.length zz0 (fun i h=>by rw [xgg,ytd hl i h,hA]) zz0) ?_)
 rw [hf];cases hn:has (A++B) n with
 | true =>
  have ha:add (A++B) n=A++B:=by rw [add,hn];rfl
  rw [ha];(conv=>whnf);refine zap [(0,some 9)] rfl rfl trivial rfl rfl ⟨⟨rfl,.inl ⟨9,rfl,rfl⟩⟩,trivial⟩
 | false =>
  have ha:add (A++B) n=(zty n A).1++⟨(zty n A).2,(zpd n B).1⟩::(zpd n B).2:=by rw [add,hn,hA,hB];rfl
  rw [ha];(conv=>whnf);have hAl:A.length<2 ^ 39:=by omega
  have hlow:∀ s∈A,s.hi<n:=by have:=zpm (l:=A++B) (n:=n);rwa [hA] at this
  have habv:∀ s∈B,n<s.lo:=by have:=yaj hl hn;rwa [hB] at this
  (refine zaf [] [(1000,9),(1001,23)] [(0,24)] ?_;(conv=>whnf);refine dG (ykf A B ⟨n,n⟩ _ rfl zz0) ?_ ⟨rfl,rfl,rfl,⟨zz1,⟨zz1,trivial⟩⟩,⟨⟨rfl,rfl⟩,trivial⟩,rfl,rfl,rfl⟩)
  cases B with
  | nil =>
   refine zbv (z':=((A.length+1:Nat):Int)) zz45 (zw ?_);refine sN ?_;have hR:zpd n []=(n,[]):=rfl;rw [hR];rcases zgi A with rfl | ⟨A',s,rfl⟩
   . conv=>whnf
     try refine sG ?_
     exact yy70
   . have hs:s.hi<n:=hlow s zz5
     have hsl:(A'++[s]).length=A'.length+1:=by simp
     have hs2:=zhl hl s zz5;refine sT ?_;refine zbv (z':=((A'.length:Nat):Int)) zz33 (zw ?_);refine sOm ?_;refine zaj (show A'++[s]++⟨n,n⟩::[]=A'++s::⟨n,n⟩::[] by simp) rfl (zw ?_);refine zao (z:=n-1) (zbt zz0 zz0) (zw ?_);by_cases he:s.hi=n-1
     . refine sT ?_
       refine zbv (z':=((A'.length:Nat):Int)) zz33 (zw ?_);refine sOm ?_;refine zaj (show A'++[s]++⟨n,n⟩::[]=(A'++[s])++⟨n,n⟩::[] from rfl) rfl (zw ?_);refine sOm ?_;refine zaj (show A'++[s]++⟨n,n⟩::[]=A'++s::⟨n,n⟩::[] by simp) zz5 (zw ?_);refine zbv (z':=((A'.length+2:Nat):Int)) zz84 (zw ?_);refine zaf [] [(1000,24)] [(0,84)] (zw ?_);refine ⟨_,_,_,_,zjh (A'++[⟨s.lo,n⟩]) ([]) ⟨n,n⟩ _ _ zz5 zz3 zz130,⟨rfl,rfl,rfl,⟨⟨rfl,_,rfl,.inl ⟨rfl,?_⟩⟩,trivial⟩,⟨⟨rfl,rfl⟩,trivial⟩,rfl,rfl,rfl⟩,?_⟩
       . exact ycj (f:=Span.row) (a:=A') (b:=⟨n,n⟩::[]) (x:=s) (y:=⟨s.lo,n⟩) zz5 rfl
       exact yy71
     . refine sN ?_
       rw [ziq,zy0 he];exact yy70
  | cons x B =>
   have hx:=habv x zz5;have hx2:=zhl hl x zz5;have hbl:(x::B).length=B.length+1:=rfl;refine zbv (z':=((A.length+1:Nat):Int)) zz45 (zw ?_);refine sT ?_;refine zbv (z':=((A.length+1:Nat):Int)) zz45 (zw ?_);refine sOm ?_;refine zaj (show A++⟨n,n⟩::x::B=(A++[⟨n,n⟩])++x::B by simp) zz5 (zw ?_);refine zao (z:=n+1) (zbt zz0 zz0) (zw ?_);by_cases hr:x.lo=n+1
   . refine sT ?_
     have hR:zpd n (x::B)=(x.hi,B):=by simp [zpd,hr]
     rw [hR];refine zbv (z':=((A.length+1:Nat):Int)) zz45 (zw ?_);refine sOm ?_;refine zaj (show A++⟨n,n⟩::x::B=(A++[⟨n,n⟩])++x::B by simp) zz5 (zw ?_);refine sOm ?_;refine zaj (show A++⟨n,n⟩::x::B=A++⟨n,n⟩::x::B from rfl) zz5 (zw ?_);refine zbv (z':=((A.length+1:Nat):Int)) zz45 (zw ?_);refine zbv (z':=((A.length+2:Nat):Int)) (by show W ((A.length:Int)+2)=_;rw [zbt (by omega) (by omega)];push_cast;rfl) (zw ?_);refine zaf [] [(1000,24)] [(0,56)] (zw ?_);refine ⟨_,_,_,_,yji (out:=A++⟨n,x.hi⟩::B) (A++[⟨n,x.hi⟩]) B x _ _ rfl zz5 zz5 zz3 zz130,⟨rfl,rfl,rfl,⟨⟨rfl,_,rfl,.inl ⟨rfl,?_⟩⟩,trivial⟩,⟨⟨rfl,rfl⟩,trivial⟩,rfl,rfl,rfl⟩,?_⟩
     . refine (zei (f:=Span.row) (a:=A) (b:=x::B) (x:=⟨n,n⟩) (y:=⟨n,x.hi⟩) zz5 rfl).symm.trans (zzp zz5)
     conv=>whnf
     try refine sG ?_
     rcases zgi A with rfl | ⟨A',s,rfl⟩
     . conv=>whnf
       try refine sG ?_
       refine zap [(0,some 56)] rfl rfl trivial rfl rfl ⟨⟨rfl,.inl ⟨56,rfl,rfl⟩⟩,trivial⟩
     . have hs:s.hi<n:=hlow s zz5
       have hsl:(A'++[s]).length=A'.length+1:=by simp
       have hs2:=zhl hl s zz5;refine sT ?_;refine zbv (z':=((A'.length:Nat):Int)) zz33 (zw ?_);refine sOm ?_;refine zaj (show A'++[s]++⟨n,x.hi⟩::B=A'++s::⟨n,x.hi⟩::B by simp) rfl (zw ?_);refine zao (z:=n-1) (zbt zz0 zz0) (zw ?_);by_cases he:s.hi=n-1
       . refine sT ?_
         refine zbv (z':=((A'.length:Nat):Int)) zz33 (zw ?_);refine sOm ?_;refine zaj (show A'++[s]++⟨n,x.hi⟩::B=(A'++[s])++⟨n,x.hi⟩::B from rfl) rfl (zw ?_);refine sOm ?_;refine zaj (show A'++[s]++⟨n,x.hi⟩::B=A'++s::⟨n,x.hi⟩::B by simp) zz5 (zw ?_);refine zbv (z':=((A'.length+2:Nat):Int)) zz84 (zw ?_);refine zaf [] [(1000,56)] [(0,84)] (zw ?_);refine ⟨_,_,_,_,zjh (A'++[⟨s.lo,x.hi⟩]) (B) ⟨n,x.hi⟩ _ _ zz5 zz3 zz130,⟨rfl,rfl,rfl,⟨⟨rfl,_,rfl,.inl ⟨rfl,?_⟩⟩,trivial⟩,⟨⟨rfl,rfl⟩,trivial⟩,rfl,rfl,rfl⟩,?_⟩
         . exact ycj (f:=Span.row) (a:=A') (b:=⟨n,x.hi⟩::B) (x:=s) (y:=⟨s.lo,x.hi⟩) zz5 rfl
         exact yy71
       . refine sN ?_
         rw [ziq,zy0 he];refine zap [(0,some 56)] rfl rfl trivial rfl rfl ⟨⟨rfl,.inl ⟨56,rfl,rfl⟩⟩,trivial⟩
   . refine sN ?_
     have hR:zpd n (x::B)=(n,x::B):=by simp [zpd,hr]
     rw [hR];rcases zgi A with rfl | ⟨A',s,rfl⟩
     . conv=>whnf
       try refine sG ?_
       exact yy70
     . have hs:s.hi<n:=hlow s zz5
       have hsl:(A'++[s]).length=A'.length+1:=by simp
       have hs2:=zhl hl s zz5;refine sT ?_;refine zbv (z':=((A'.length:Nat):Int)) zz33 (zw ?_);refine sOm ?_;refine zaj (show A'++[s]++⟨n,n⟩::x::B=A'++s::⟨n,n⟩::x::B by simp) rfl (zw ?_);refine zao (z:=n-1) (zbt zz0 zz0) (zw ?_);by_cases he:s.hi=n-1
       . refine sT ?_
         refine zbv (z':=((A'.length:Nat):Int)) zz33 (zw ?_);refine sOm ?_;refine zaj (show A'++[s]++⟨n,n⟩::x::B=(A'++[s])++⟨n,n⟩::x::B from rfl) rfl (zw ?_);refine sOm ?_;refine zaj (show A'++[s]++⟨n,n⟩::x::B=A'++s::⟨n,n⟩::x::B by simp) zz5 (zw ?_);refine zbv (z':=((A'.length+2:Nat):Int)) zz84 (zw ?_);refine zaf [] [(1000,24)] [(0,84)] (zw ?_);refine ⟨_,_,_,_,zjh (A'++[⟨s.lo,n⟩]) (x::B) ⟨n,n⟩ _ _ zz5 zz3 zz130,⟨rfl,rfl,rfl,⟨⟨rfl,_,rfl,.inl ⟨rfl,?_⟩⟩,trivial⟩,⟨⟨rfl,rfl⟩,trivial⟩,rfl,rfl,rfl⟩,?_⟩
         . exact ycj (f:=Span.row) (a:=A') (b:=⟨n,n⟩::x::B) (x:=s) (y:=⟨s.lo,n⟩) zz5 rfl
         exact yy71
       . refine sN ?_
         rw [ziq,zy0 he];exact yy70
end Ser
namespace Ser
theorem xbn (l:List Span) (n:Int) (hl:zjy l) (hb:l.length<2 ^ 39) (h1:-9223372036854775808<=n) (h2:n<=9223372036854775807) :
 zan Tryz.prog 181 [zas l,i64 n] zad (.own 0) (lk .free [(0,.live (.row 199 2 ((add l n).map Span.row)))]):=by
 have hsp:=split l n;have h:=yxi (below l n) (zfr l n) n (by rwa [<- hsp]) (by rw [<- hsp]) (by rw [<- hsp]) (by rwa [<- hsp]) h1 h2
 rwa [<- hsp] at h
def up:List Span->Int->Int×List Span
 | [],n=>(n,[])
 | s::r,n=>if s.lo<=n+1 then up r (if s.hi>n then s.hi else n) else (n,s::r)
def wnd:List Span->List Span->HV
 | [],_=>.own 900
 | _::a,b=>.osl 900 2 (a.length+1) b.length
theorem ynn {α:Type} {f:α->List PV} {l a b c:List α} {o n:Nat} {K:List (List PV)->Prop} (h:l=a++b++c) (ho:o=a.length) (hn:n=b.length) (hk:K (b.map f)):zrn (l.map f) o n K:=by
 subst h ho hn;refine ⟨_,rfl,by simp,?_⟩
 rwa [<- zy104,<- zy122,zy28,zy105,zy130]
theorem xcr {i s o o' n n':Nat} (ho:o=o') (hn:n=n'):HV.osl i s o n=.osl i s o' n':=by rw [ho,hn]
theorem yyg (l:List Span) (n:Int) (hl:∀ s∈l,s.hi<=1099511627776) (hb:l.length<2 ^ 39) (h1:-1099511627776<=n) (h2:n<=1099511627776) :
 zan Tryz.prog 180 [zas l,i64 n] zad (.tup [i64 (up l n).1,.own 0]) (lk .free [(0,.live (.row 199 2 ((up l n).2.map Span.row)))]):=by
 refine zaq mixed Tryz.func180 zz4 [] (fun _=>.inl rfl) ?_;generalize hR:up l n=R;(conv=>whnf)
 (refine zat [(0,8)]  ?_;(conv=>whnf);refine dO (zfs l zz0) ?_)
 refine ⟨{x:(List Span×List Span)×Int // l=x.1.1++x.1.2/\R=up x.1.2 x.2/\-1099511627776<=x.2/\x.2<=1099511627776},fun | ⟨((a,b),m),_⟩=>hs 32 [(1,i64 m),(6,wnd a b)] [(900,.live (.row 199 2 (l.map Span.row)))],fun x=>x.1.1.2.length,⟨(([],l),n),rfl,hR.symm,h1,h2⟩,?_,?_⟩
 . exact (zbe [(900,some 8)])
 rintro ⟨⟨⟨a,b⟩,m⟩,h,hu,hm1,hm2⟩;dsimp only at h hu hm1 hm2;have hlen:l.length=a.length+b.length:=by rw [h];simp
 have hlm:(l.map Span.row).length=l.length:=by simp
 cases a with
 | nil =>
  rw [zy58] at h;rw [zy12,zy75] at hlen;(conv=>whnf);cases b with
  | nil =>
   rw [zy12] at hlen;refine sN ?_
   (refine zat [(0,31)]  ?_;(conv=>whnf);refine dO (zfs l zz0) ?_)
   exact yy145
  | cons s r =>
   rw [zy6] at hlen;have hs:=hl s zz109;refine sT ?_;refine zaa zz0 (zw ?_);refine zaj (a:=[]) h rfl (zw ?_);refine sF ?_;by_cases c:s.lo<=m+1
   . refine sT ?_
     refine zaa zz0 (zw ?_);refine zaj (a:=[]) h rfl (zw ?_);refine zaa zz0 (zw ?_);refine ⟨⟨(([s],r),if s.hi>m then s.hi else m),h,by dsimp only;rw [hu,up,zy1 c],by dsimp only;split<;>omega,by dsimp only;split<;>omega⟩,(zax [(900,some 900)] zz85),by simp⟩
   . refine sN ?_
     (refine zat [(0,31)]  ?_;(conv=>whnf);refine dO (zfs l zz0) ?_)
     rw [show up (s::r) m=(m,s::r) by simp [up,c]] at hu;exact yy145
 | cons t a =>
  rw [zy6] at hlen;have hal:(a.length:Int)+1=((t::a).length:Nat):=by simp
  (conv=>whnf);cases b with
  | nil =>
   rw [zy12] at hlen;(conv=>whnf)
   try refine sG ?_
   refine zat [(0,31)] (zw ?_);refine ynn (a:=t::a) (b:=[]) (c:=[]) zz109 rfl rfl ?_;(conv=>whnf);refine ⟨_,_,zfs [] zz5,⟨⟨⟨rfl,rfl⟩,trivial⟩,rfl,rfl,rfl⟩,?_⟩;(conv=>whnf);subst hu;refine zap [(0,some 31)] rfl rfl trivial rfl rfl ⟨⟨rfl,.inl ⟨31,rfl,rfl⟩⟩,trivial⟩
  | cons s r =>
   rw [zy6] at hlen;have hs:=hl s zz109;have hrl:(s::r).length=r.length+1:=rfl;refine sT ?_;refine zaa zz0 (zw ?_);refine zaj (a:=t::a) h zz5 (zw ?_);refine sF ?_;by_cases c:s.lo<=m+1
   . refine sT ?_
     refine zaa zz0 (zw ?_);refine zaj (a:=t::a) h zz5 (zw ?_);refine zaa zz0 (zw ?_);refine ⟨⟨((t::(a++[s]),r),if s.hi>m then s.hi else m),by rw [h];simp,by dsimp only;rw [hu,up,zy1 c],by dsimp only;split<;>omega,by dsimp only;split<;>omega⟩,(zax [(900,some 900)] zz85),by simp⟩
   . refine sN ?_
     refine zat [(0,31)] (zw ?_);refine ynn (a:=t::a) (b:=s::r) (c:=[]) zz109 rfl rfl ?_;(conv=>whnf);refine ⟨_,_,zfs (s::r) zz0,⟨⟨⟨rfl,rfl⟩,trivial⟩,rfl,rfl,rfl⟩,?_⟩;(conv=>whnf);rw [show up (s::r) m=(m,s::r) by simp [up,c]] at hu;subst hu;refine zap [(0,some 31)] rfl rfl trivial rfl rfl ⟨⟨rfl,.inl ⟨31,rfl,rfl⟩⟩,trivial⟩
def xiz (R:Int×List Span) (b:List Span) (m:Int) (o:List Span):Prop:=(o=[]/\R=up b m)\/(R=(m,o++b)/\∀ s∈b,m+1<s.lo)
theorem xbq (l:List Span) (n:Int) (hr:zjy l) (hl:∀ s∈l,s.hi<=1099511627776) (hb:l.length<2 ^ 39) (h1:-1099511627776<=n) (h2:n<=1099511627776) :
 zan Tryz.prog 173 [zas l,i64 n] zad (.tup [i64 (up l n).1,.own 0]) (lk .free [(0,.live (.row 199 2 ((up l n).2.map Span.row)))]):=by
 refine zaq mixed Tryz.func173 zz4 [] (fun _=>.inl rfl) ?_;generalize hR:up l n=R;(conv=>whnf);refine ⟨{x:(List Span×List Span)×Int×List Span // l=x.1.1++x.1.2/\xiz R x.1.2 x.2.1 x.2.2/\-1099511627776<=x.2.1/\x.2.1<=1099511627776/\x.2.2.length<=x.1.1.length},fun | ⟨((a,b),m,o),_⟩=>hs 33 [(1,i64 m),(6,.own 900),(9,zas l),(10,i64 l.length),(11,i64 a.length)] [(900,.live (.row 199 2 (o.map Span.row)))],fun x=>x.1.1.2.length,⟨(([],l),n,[]),rfl,.inl ⟨rfl,hR.symm⟩,h1,h2,zy24 _⟩,?_,?_⟩
 . exact (zbe [(900,none)])
 rintro ⟨⟨⟨a,b⟩,m,o⟩,h,ht,hm1,hm2,ho⟩;dsimp only at h ht hm1 hm2 ho;have hlen:l.length=a.length+b.length:=by rw [h];simp
 (conv=>whnf);cases b with
 | nil =>
  rw [zy12] at hlen;refine sN ?_;have hR2:R=(m,o):=by
   rcases ht with ⟨h1,h2⟩ | ⟨h1,h2⟩
   . rw [h2,h1];rfl
   . rw [h1,zy5]
  subst hR2;refine zap [(0,some 900)] rfl rfl trivial rfl rfl ⟨⟨rfl,.inl ⟨900,rfl,rfl⟩⟩,trivial⟩
 | cons s r =>
  rw [zy6] at hlen;have hs:=hl s zz109;have hrs:zjy (s::r):=by rw [h] at hr;exact (zhk.1 hr).2.1
  refine sT ?_;refine zaj h rfl (zw ?_);refine sF ?_;by_cases c:s.lo<=m+1
  . obtain ⟨rfl,htt⟩:o=[]/\R=up r (if s.hi>m then s.hi else m):=by
     rcases ht with ⟨h1,h2⟩ | ⟨h1,h2⟩
     . exact ⟨h1,by rw [h2,up,zy1 c]⟩
     . have:=h2 s zz5;omega
    refine sT ?_;by_cases c2:s.hi>m
    . refine sT ?_
      refine sF ?_;rw [zy1 c2] at htt;exact ⟨⟨((a++[s],r),s.hi,[]),zae h,.inl ⟨rfl,htt⟩,by dsimp only;omega,hs,by simp⟩,(zbe [(900,some 900)]),by simp⟩
    . refine sN ?_
      refine sF ?_;rw [zy0 c2] at htt;exact ⟨⟨((a++[s],r),m,[]),zae h,.inl ⟨rfl,htt⟩,hm1,hm2,by simp⟩,(zbe [(900,some 900)]),by simp⟩
  . have ht2:xiz R r m (o++[s]):=by
     refine .inr ?_;rcases ht with ⟨h1,h2⟩ | ⟨h1,h2⟩
     . rw [h2,h1,up,zy0 c]
       exact ⟨rfl,fun t ht=>by have:=hrs.1;have:=hrs.2.2.2.1 t ht;omega⟩
     . exact ⟨by rw [h1];simp,fun t ht=>h2 t (by simp [ht])⟩
    refine sN ?_;refine zaa (c:=((o.map Span.row).length+1)*16<=140737488355328) zz3 (zw ?_);refine sF ?_;exact ⟨⟨((a++[s],r),m,o++[s]),zae h,ht2,hm1,hm2,by simp;omega⟩,(zax [(900,some 29)] zz50),by simp⟩
instance:DecidableEq Span:=fun a b=>decidable_of_iff (a.lo=b.lo/\a.hi=b.hi) ⟨fun h=>by cases a;cases b;simp_all,fun h=>by rw [h];simp⟩
end Ser
namespace Ser
def p1 (n:Int):List Span->Int×Int->Int×Int
 | [],p=>p
 | s::r,p=>p1 n r (if s.hi=n-1 then (s.lo,p.2) else if s.lo=n+1 then (p.1,s.hi) else p)
def p2 (n lo hi:Int):List Span->Bool->List Span
 | [],put=>if put then [] else [⟨lo,hi⟩]
 | s::r,put=>if s.hi=n-1\/s.lo=n+1 then p2 n lo hi r put else if put=false/\s.lo>n then ⟨lo,hi⟩::s::p2 n lo hi r true else s::p2 n lo hi r put
theorem ygr {n:Int} {r:List Span}:∀ {a:List Span} {p:Int×Int},(∀ s∈a,s.hi<n-1/\s.lo<=s.hi)->p1 n (a++r) p=p1 n r p
 | [],p,_=>rfl
 | s::a,p,h=>by
  have h1:=h s zz5;rw [zy40,p1,zy0 (by omega),zy0 (by omega)];exact ygr fun s hs=>h s (by simp [hs])
theorem zwf {n:Int}:∀ {a:List Span} {p:Int×Int},(∀ s∈a,n+1<s.lo/\s.lo<=s.hi)->p1 n a p=p
 | [],p,_=>rfl
 | s::a,p,h=>by
  have h1:=h s zz5;rw [p1,zy0 (by omega),zy0 (by omega)];exact zwf fun s hs=>h s (by simp [hs])
theorem ygs {n lo hi:Int} {r:List Span}:∀ {a:List Span},(∀ s∈a,s.hi<n-1/\s.lo<=s.hi)->p2 n lo hi (a++r) false=a++p2 n lo hi r false
 | [],_=>rfl
 | s::a,h=>by
  have h1:=h s zz5;rw [zy40,p2,zy0 (by omega),zy0 (by omega),zy40,ygs fun s hs=>h s (by simp [hs])]
theorem xcu {n lo hi:Int}:∀ {a:List Span},(∀ s∈a,n+1<s.lo/\s.lo<=s.hi)->p2 n lo hi a true=a
 | [],_=>rfl
 | s::a,h=>by
  have h1:=h s zz5;rw [p2,zy0 (by omega),zy0 (by simp),xcu fun s hs=>h s (by simp [hs])]
theorem ycc {n lo hi:Int} {a:List Span} (h:∀ s∈a,n+1<s.lo/\s.lo<=s.hi):p2 n lo hi a false=⟨lo,hi⟩::a:=by
 cases a with
 | nil=>rfl
 | cons s a =>
  have h1:=h s zz5;rw [p2,zy0 (by omega),zy1 ⟨rfl,by omega⟩,xcu fun s hs=>h s (by simp [hs])]
theorem xez {l:List Span} {n:Int} (h:zjy l) (hn:has l n=false):p2 n (p1 n l (n,n)).1 (p1 n l (n,n)).2 l false=add l n:=by
 have hsp:=split l n;have hab:=h;rw [hsp] at hab;obtain ⟨ra,rb,rab⟩:=zhk.1 hab;have hlow:=zpm (l:=l) (n:=n);have habv:=yaj h hn;have hadd:add l n=(zty n (below l n)).1++⟨(zty n (below l n)).2,(zpd n (zfr l n)).1⟩::(zpd n (zfr l n)).2:=by rw [add,hn];rfl
 rw [hadd];generalize below l n=A at *
 generalize zfr l n=B at *
 subst hsp;have hA:∃ a:List Span,(∀ s∈a,s.hi<n-1/\s.lo<=s.hi)/\(A=a/\zty n A=(a,n)\/∃ s,A=a++[s]/\s.hi=n-1/\zty n A=(a,s.lo)):=by
  rcases zgi A with rfl | ⟨a,s,rfl⟩
  . exact ⟨[],by simp,.inl ⟨rfl,rfl⟩⟩
  . obtain ⟨r1,r2,r3⟩:=zhk.1 ra
    have hs:=hlow s zz5;have hs2:=r2.1;have hal:∀ t∈a,t.hi<n-1/\t.lo<=t.hi:=fun t ht=>by
     have:=r3 t ht s zz5;have:=(zhl r1 t ht).1;omega
    rw [ziq];by_cases c:s.hi=n-1
    . exact ⟨a,hal,.inr ⟨s,rfl,c,by rw [zy1 c]⟩⟩
    . refine ⟨a++[s],fun t ht=>?_,.inl ⟨rfl,by rw [zy0 c]⟩⟩
      rcases zy21.1 ht with ht | ht
      . exact hal t ht
      . rw [zy23.1 ht];omega
 have hB:∃ b:List Span,(∀ s∈b,n+1<s.lo/\s.lo<=s.hi)/\(B=b/\zpd n B=(n,b)\/∃ s,B=s::b/\s.lo=n+1/\s.lo<=s.hi/\zpd n B=(s.hi,b)):=by
  cases B with
  | nil=>exact ⟨[],by simp,.inl ⟨rfl,rfl⟩⟩
  | cons s b =>
   have hs:=habv s zz5;have hs2:=rb.1;have hbl:∀ t∈b,n+1<t.lo/\t.lo<=t.hi:=fun t ht=>by
    have:=rb.2.2.2.1 t ht;have:=(zhl rb.2.2.2.2 t ht).1;omega
   by_cases c:s.lo=n+1
   . exact ⟨b,hbl,.inr ⟨s,rfl,c,hs2,by simp [zpd,c]⟩⟩
   . refine ⟨s::b,fun t ht=>?_,.inl ⟨rfl,by simp [zpd,c]⟩⟩
     rcases zy14.1 ht with rfl | ht
     . omega
     . exact hbl t ht
 obtain ⟨a,ha,hA⟩:=hA;obtain ⟨b,hb,hB⟩:=hB;rcases hA with ⟨rfl,eA⟩ | ⟨s,rfl,es,eA⟩<;>rcases hB with ⟨rfl,eB⟩ | ⟨t,rfl,et,et2,eB⟩<;>rw [eA,eB]
 . rw [ygr ha,zwf hb,ygs ha,ycc hb]
 . rw [ygr ha,p1,zy0 (by omega),zy1 et,zwf hb,ygs ha,p2,zy1 (.inr et),ycc hb]
 . rw [zy28,ygr ha,List.singleton_append,p1,zy1 es,zwf hb,ygs ha,p2,zy1 (.inl es),ycc hb]
 . rw [zy28,ygr ha,List.singleton_append,p1,zy1 es,p1,zy0 (by omega),zy1 et,zwf hb,ygs ha,p2,zy1 (.inl es),p2,zy1 (.inr et),ycc hb]
theorem yxv (l:List Span) (n:Int) (hn:has l n=false) (hl:zjy l) (hb:l.length<2 ^ 39) (h1:-1099511627776<=n) (h2:n<=1099511627776) :
 zan Tryz.prog 174 [zas l,i64 n] zad (.own 0) (lk .free [(0,.live (.row 199 2 ((add l n).map Span.row)))]):=by
 refine zaq mixed Tryz.func174 zz4 [] (fun _=>.inl rfl) ?_;(conv=>whnf)
 (refine cL ?_;refine dL (ylc l n zz0) ?_)
 rw [hn,<- xez hl hn];generalize hP:p1 n l (n,n)=P;generalize hR:p2 n P.1 P.2 l false=R;(conv=>whnf);refine ⟨{x:(List Span×List Span)×Int×Int // l=x.1.1++x.1.2/\p1 n x.1.2 x.2=P},fun | ⟨((a,b),lo,hi),_⟩=>hs 88 [(0,zas l),(1,i64 n),(5,i64 lo),(6,i64 hi),(7,.p (.v (.slice none 0 0))),(19,zas l),(20,i64 l.length),(21,i64 a.length)] [],fun x=>x.1.1.2.length,⟨(([],l),n,n),rfl,hP⟩,?_,?_⟩
 . exact (zbe [])
 rintro ⟨⟨⟨a,b⟩,lo,hi⟩,h,ht⟩;dsimp only at h ht;have hlen:l.length=a.length+b.length:=by rw [h];simp
 (conv=>whnf);cases b with
 | nil =>
  rw [zy12] at hlen;refine sN ?_;rw [p1] at ht;subst ht;refine ⟨{x:(List Span×List Span)×Bool×List Span // l=x.1.1++x.1.2/\R=x.2.2++p2 n lo hi x.1.2 x.2.1/\x.2.2.length<=2*x.1.1.length},fun | ⟨((a,b),put,o),_⟩=>hs 88 [(1,i64 n),(5,i64 lo),(6,i64 hi),(7,.own 900),(10,zbj put),(42,zas l),(43,i64 l.length),(44,i64 a.length)] [(900,.live (.row 199 2 (o.map Span.row)))],fun x=>x.1.1.2.length,⟨(([],l),false,[]),rfl,hR.symm,zy107 _⟩,?_,?_⟩
  . exact (zbe [(900,none)])
  clear h hlen;rintro ⟨⟨⟨a,b⟩,put,o⟩,h,ht,ho⟩;dsimp only at h ht ho;have hlen:l.length=a.length+b.length:=by rw [h];simp
  (conv=>whnf);cases b with
  | nil =>
   rw [zy12] at hlen;refine sN ?_;cases put with
   | true =>
    have hR2:R=o:=by rw [ht,p2,zy1 rfl,zy5]
    conv=>whnf
    try refine sG ?_
    subst hR2;refine zap [(0,some 900)] rfl rfl trivial rfl rfl ⟨⟨rfl,.inl ⟨900,rfl,rfl⟩⟩,trivial⟩
   | false =>
    have hR2:R=o++[⟨lo,hi⟩]:=by rw [ht,p2,zy0 (by simp)]
    conv=>whnf
    try refine sG ?_
    refine zaa (c:=((o.map Span.row).length+1)*16<=140737488355328) zz3 (zw ?_)
    try refine sG ?_
    subst hR2;refine zap [(0,some 86)] rfl rfl trivial rfl rfl ⟨⟨rfl,.inl ⟨86,rfl,?_⟩⟩,trivial⟩;exact zbc (f:=Span.row) (x:=⟨lo,hi⟩) rfl rfl
  | cons s r =>
   rw [zy6] at hlen;rw [p2] at ht;refine sT ?_;refine zaj h rfl (zw ?_);refine sF ?_;by_cases c1:s.hi=n-1
   . rw [zy1 (.inl c1)] at ht
     exact yy143
   refine sN ?_;refine sF ?_;by_cases c2:s.lo=n+1
   . rw [zy1 (.inr c2)] at ht
     exact yy143
   rw [zy0 (by simp [c1,c2])] at ht;refine sN ?_;by_cases c3:put=false/\s.lo>n
   . rw [zy1 c3] at ht
     obtain ⟨rfl,c3⟩:=c3;(conv=>whnf)
     try refine sG ?_
     refine sT ?_;refine zaa (c:=((o.map Span.row).length+1)*16<=140737488355328) zz3 (zw ?_)
     try refine sG ?_
     refine zaa (c:=((o.map Span.row++[[pi lo,pi hi]]).length+1)*16<=140737488355328) zz3 (zw ?_)
     try refine sG ?_
     refine sF ?_;refine ⟨⟨((a++[s],r),true,o++[⟨lo,hi⟩,s]),zae h,by rw [‹R=o++⟨lo,hi⟩::s::p2 n lo hi r true›];simp,by simp;omega⟩,(zax [(900,some 77)] (by repeat' (first | exact z0 | refine z1 ?_ | refine ⟨?_,?_⟩ | ((exact zar (by simp;rfl))) | exact z2))),by simp⟩
   . rw [zy0 c3] at ht
     cases put with
     | true =>
      conv=>whnf
      try refine sG ?_
      refine zaa (c:=((o.map Span.row).length+1)*16<=140737488355328) zz3 (zw ?_)
      try refine sG ?_
      refine sF ?_;refine ⟨⟨((a++[s],r),true,o++[s]),zae h,by rw [ht];simp,by simp;omega⟩,(zax [(900,some 77)] zz50),by simp⟩
     | false =>
      have c4:¬ s.lo>n:=fun h=>c3 ⟨rfl,h⟩
      conv=>whnf
      try refine sG ?_
      refine sN ?_;refine zaa (c:=((o.map Span.row).length+1)*16<=140737488355328) zz3 (zw ?_)
      try refine sG ?_
      refine sF ?_;refine ⟨⟨((a++[s],r),false,o++[s]),zae h,by rw [ht];simp,by simp;omega⟩,(zax [(900,some 77)] zz50),by simp⟩
 | cons s r =>
  rw [zy6] at hlen;rw [p1] at ht;refine sT ?_;refine zaj h rfl (zw ?_);refine sF ?_;by_cases c1:s.hi=n-1
  . rw [zy1 c1] at ht
    refine sT ?_;refine sF ?_;exact ⟨⟨((a++[s],r),s.lo,hi),zae h,ht⟩,(zbe []),by simp⟩
  . rw [zy0 c1] at ht
    refine sN ?_;refine sF ?_;by_cases c2:s.lo=n+1
    . rw [zy1 c2] at ht
      refine sT ?_;refine sF ?_;exact ⟨⟨((a++[s],r),lo,s.hi),zae h,ht⟩,(zbe []),by simp⟩
    . rw [zy0 c2] at ht
      refine sN ?_;refine sF ?_;exact ⟨⟨((a++[s],r),lo,hi),zae h,ht⟩,(zbe []),by simp⟩
end Ser
namespace Rcv
open Srt Jn Ser
def ych (r:Receiver) (a b c d:HV):List HV:=[i64 r.config.streams,i64 r.config.part,i64 r.config.packet,i64 r.config.paths,i64 r.config.turns,i64 r.config.waiting,i64 r.config.first,i64 r.cum,a,b,c,d]
abbrev xfd (l:List Span):zai:=.live (.row 199 2 (l.map Span.row))
abbrev xcw (l:List zav):zai:=.live (.row 162 12 (l.map zav.row))
abbrev zxu (l:List Int):zai:=.live (.row 3 1 (l.map fun n=>[pi n]))
abbrev xje (l:List zbf):zai:=.live (.row 56 4 (l.map zbf.row))
abbrev xhi (r:Receiver) (a b c d:Nat):HV:=.agg (ych r (.own a) (.own b) (.own c) (.own d))
abbrev yyu (r:Receiver) (a b c d:Nat) (L:List (Nat×zai)):List (Nat×zai):=(a,xfd r.zas)::(b,xcw r.pieces)::(c,zxu r.zbp)::(d,xje r.log)::L
abbrev tkH (r:Receiver):List (Nat×zai):=(1000,.live (.cells 225 (ych r (.own 1001) (.own 1002) (.own 1003) (.own 1004))))::yyu r 1001 1002 1003 1004 []
abbrev tkD (r:Receiver):List (Nat×zai):=(1000,.live (.cells 225 (ych r (.own 0) (.own 1) (.own 2) (.own 3))))::yyu r 0 1 2 3 [(1001,.dead),(1002,.dead),(1003,.dead),(1004,.dead)]
def yiy (c:Config):Receiver:=⟨c,c.first-1,[],[],List.replicate (max c.streams 0).toNat 0,[]⟩
theorem zqr (c:Config) (h1:-9223372036854775808<c.first) (h2:c.first<=9223372036854775807) (h3:c.streams<=1099511627776) :
 zan Tryz.prog 110 [c.hv] zad (xhi (yiy c) 0 1 2 3) (lk .free (yyu (yiy c) 0 1 2 3 [])):=by
 refine zaq mixed Tryz.func110 zz4 [] (fun _=>.inl rfl) ?_;exact yy26
theorem zxd (c:Config) (h1:-9223372036854775808<c.first) (h2:c.first<=9223372036854775807) (h3:c.streams<=1099511627776) :
 zan Tryz.prog 106 [c.hv] zad (xhi (yiy c) 0 1 2 3) (lk .free (yyu (yiy c) 0 1 2 3 [])):=by
 refine zaq mixed Tryz.func106 zz4 [] (fun _=>.inl rfl) ?_;exact yy26
structure Fit (r:Receiver):Prop where
 zas:r.zas.length<2 ^ 36
 pieces:r.pieces.length<2 ^ 22
 bytes:tot r.pieces<2 ^ 22
 zbp:r.zbp.length<2 ^ 36
 log:r.log.length<2 ^ 36
 data:∀ a∈r.log,a.data.length<2 ^ 40
abbrev yit:List HV:=[i64 0,i64 0,i64 0,i64 0,i64 0,i64 0,i64 0,i64 0,zeg,zeg,zeg,zeg]
theorem zdu (r:Receiver) (hr:Fit r):zan Tryz.prog 111 [r.hv] zad (xhi r 0 1 2 3) (lk .free (yyu r 0 1 2 3 [])):=by
 obtain ⟨h1,h2,h3,h4,h5,h6⟩:=hr;refine zaq mixed Tryz.func111 zz4 [] (fun _=>.inl rfl) ?_;(conv=>whnf)
 (refine zat [(0,11)]  ?_;(conv=>whnf);refine dO (Cl.zfs r.zas zz0) ?_)
 (refine zat [(0,14)]  ?_;(conv=>whnf);refine dO (Cl.zrd r.zbp zz0) ?_)
 refine sD ?_;refine ⟨{x:List zav×List zav // r.pieces=x.1++x.2},fun | ⟨(A,B),_⟩=>hs 56 [(1,.ptr 1 0),(2,.ptr 2 0),(3,.own 900),(18,pieces r.pieces),(19,i64 r.pieces.length),(20,i64 A.length)] [(1,.live (.cells 37 (ych r (.own 11) (pieces r.pieces) (.own 14) (.p (.sl 4 (r.log.map zbf.row)))))),(2,.live (.cells 37 yit)),(11,xfd r.zas),(14,zxu r.zbp),(900,xcw A)],fun x=>x.1.2.length,⟨([],r.pieces),rfl⟩,?_,?_⟩
 . exact (zbe [(1,some 1),(2,some 2),(11,some 11),(14,some 14),(900,none)])
 rintro ⟨⟨A,B⟩,h⟩;dsimp only at h;have hl:r.pieces.length=A.length+B.length:=by rw [h];simp
 (conv=>whnf);cases B with
 | cons p B =>
  have hp:p.chunk.data.length<=tot r.pieces:=yyo zz109;rw [zy6] at hl;refine sT ?_;refine zaj h rfl (zw ?_)
  (refine zat [(0,27)]  ?_;(conv=>whnf);refine dO (Cl.zdc p.chunk.data zz0) ?_)
  refine zaa (c:=((A.map zav.row).length+1)*136<=140737488355328) zz3 (zw ?_);refine sF ?_;refine ⟨⟨(A++[p],B),by rw [h];simp⟩,(zax [(1,some 1),(2,some 2),(11,some 11),(14,some 14),(900,some 33)] (by repeat' (first | exact z0 | refine z1 ?_ | refine ⟨?_,?_⟩ | ((exact zbc (f:=zav.row) rfl rfl)) | exact z2))),by simp⟩
 | nil =>
  rw [zy12] at hl;rw [zy5] at h;refine sN ?_;refine ⟨{x:List zbf×List zbf // r.log=x.1++x.2},fun | ⟨(A,B),_⟩=>hs 56 [(1,.ptr 1 0),(2,.ptr 2 0),(3,.own 900),(6,.own 901),(36,.p (.sl 4 (r.log.map zbf.row))),(37,i64 r.log.length),(38,i64 A.length)] [(1,.live (.cells 37 (ych r (.own 11) (pieces r.pieces) (.own 14) (.p (.sl 4 (r.log.map zbf.row)))))),(2,.live (.cells 37 yit)),(11,xfd r.zas),(14,zxu r.zbp),(900,xcw r.pieces),(901,xje A)],fun x=>x.1.2.length,⟨([],r.log),rfl⟩,?_,?_⟩
  . exact (zax [(1,some 1),(2,some 2),(11,some 11),(14,some 14),(900,some 900),(901,none)] zz91)
  rintro ⟨⟨A,B⟩,h⟩;dsimp only at h;have hl:r.log.length=A.length+B.length:=by rw [h];simp
  (conv=>whnf);cases B with
  | cons p B =>
   have hp:=h6 p zz109;rw [zy6] at hl;refine sT ?_;refine zaj h rfl (zw ?_)
   (refine zat [(0,44)]  ?_;(conv=>whnf);refine dO (Cl.zdc p.data zz0) ?_)
   refine zaa (c:=((A.map zbf.row).length+1)*48<=140737488355328) zz3 (zw ?_);refine sF ?_;refine ⟨⟨(A++[p],B),by rw [h];simp⟩,(zax [(1,some 1),(2,some 2),(11,some 11),(14,some 14),(900,some 900),(901,some 49)] (by repeat' (first | exact z0 | refine z1 ?_ | refine ⟨?_,?_⟩ | ((exact zbc (f:=zbf.row) rfl rfl)) | exact z2))),by simp⟩
  | nil =>
   rw [zy12] at hl;rw [zy5] at h;refine sN ?_;refine zap [(0,some 11),(1,some 900),(2,some 14),(3,some 901)] rfl rfl trivial rfl rfl ⟨⟨rfl,.inl ⟨11,rfl,rfl⟩⟩,⟨rfl,.inl ⟨900,rfl,rfl⟩⟩,⟨rfl,.inl ⟨14,rfl,rfl⟩⟩,⟨rfl,.inl ⟨901,rfl,?_⟩⟩,trivial⟩;exact zar (by rw [h])
theorem yhz (r:Receiver) (h2:r.pieces.length<2 ^ 40) (h3:tot r.pieces<2 ^ 60):zan Tryz.prog 179 [r.hv] zad (i64 (tot r.pieces:Nat)) zad:=by
 refine zal mixed Tryz.func179 zz4 ?_;exact yy28
theorem zsi (r:Receiver) (h2:r.pieces.length<2 ^ 40) (h3:tot r.pieces<2 ^ 60):zan Tryz.prog 57 [r.hv] zad (i64 (tot r.pieces:Nat)) zad:=by
 refine zal mixed Tryz.func57 zz4 ?_;exact yy28
def zgs (s m:Int) (o:Bool) (p:zav):Bool:=decide (p.chunk.stream=s)&&decide (p.chunk.mid=m)&&(p.chunk.ordered==o)
theorem yxs (p:zav) (s m:Int) (o:Bool):zan Tryz.prog 199 [.rp p.row,i64 s,i64 m,zbj o] zad (zbj (zgs s m o p)) zad:=by
 refine zal mixed Tryz.func199 zz4 ?_;(conv=>whnf);by_cases c1:p.chunk.stream=s
 . refine zac zz39 ?_;conv=>whnf
   by_cases c2:p.chunk.mid=m
   . refine zac zz29 ?_;conv=>whnf
     simp [zgs,c1,c2]
   . refine zab zz29 (zw ?_)
     simp [zgs,c2]
 . refine zab zz39 (zw ?_)
   simp [zgs,c1]
theorem yri (s m:Int) (o:Bool) (p:zav):zan Tryz.prog 211 [p.hv,.rp [pi s],.rp [pi m],.rp [pb o]] zad (zbj (zgs s m o p)) zad:=by
 refine zal mixed Tryz.func211 zz4 ?_;(conv=>whnf)
 ((refine zbh ?_;(conv=>whnf);refine ⟨_,yxs p s m o,rfl,?_⟩;conv=>whnf);try refine sG ?_)
def zpo (r:Receiver) (s m:Int) (o:Bool):Receiver:={r with pieces:=r.pieces.filter fun p=>!zgs s m o p}
theorem zwx (r:Receiver) (s m:Int) (o:Bool) (h2:r.pieces.length<2 ^ 38) :
 zan Tryz.prog 201 [.ptr 1000 0,i64 s,i64 m,zbj o] (lk .free (tkH r)) (.tup []) (lk .free (tkD (zpo r s m o))):=by
 refine zaq mixed Tryz.func201 zz4 [1000,1001,1002,1003,1004] zbq ?_;(conv=>whnf)
 (refine zaf [false,true] [(1000,1002)] [(0,15)] ?_;(conv=>whnf);refine dG (Cl.yqa (fun p=>yri s m o p) r.pieces zz0) ?_)
 (exact zci (pK5 [(0,some 1001),(1,some 15),(2,some 1003),(3,some 1004)]))
def dlv (r:Receiver) (s m:Int) (o:Bool):Receiver×Bool:=match join (r.pieces.filter (zgs s m o)) with
 | none=>(r,false)
 | some b=>({zpo r s m o with log:=r.log++[⟨s,m,o,b⟩]},true)
theorem zkw (f:zav->Bool):∀ l:List zav,tot (l.filter f)<=tot l
 | []=>zy24 _
 | p::l=>by
  have:=zkw f l;rw [zy49];split
  . rw [zfj,zfj];omega
  . rw [zfj];omega
theorem zmw (r:Receiver) (s m:Int) (o:Bool) (h2:r.pieces.length<2 ^ 37) (h3:tot r.pieces<2 ^ 40) (h4:r.log.length<2 ^ 38) :
 zan Tryz.prog 183 [.ptr 1000 0,i64 s,i64 m,zbj o] (lk .free (tkH r)) (zbj (dlv r s m o).2) (lk .free (tkD (dlv r s m o).1)):=by
 refine zaq mixed Tryz.func183 zz4 [1000,1001,1002,1003,1004] zbq ?_;(conv=>whnf);refine ⟨{x:List zav×List zav // r.pieces=x.1++x.2},fun | ⟨(A,B),_⟩=>hsP [1000,1001,1002,1003,1004] 61 [(0,.ptr 1000 0),(1,i64 s),(2,i64 m),(3,zbj o),(8,zbj false),(9,.own 900),(18,.own 1002),(19,i64 r.pieces.length),(20,i64 A.length)] (tkH r++[(900,xcw (A.filter (zgs s m o)))]),fun x=>x.1.2.length,⟨([],r.pieces),rfl⟩,?_,?_⟩
 . exact (zcc (pK5 [(900,none)]) zz2)
 rintro ⟨⟨A,B⟩,h⟩;dsimp only at h;have hl:r.pieces.length=A.length+B.length:=by rw [h];simp
 have hf:=zy27 (zgs s m o) A;(conv=>whnf);cases B with
 | cons p B =>
  rw [zy6] at hl;refine sT ?_;refine sO ?_;refine zaj h rfl (zw ?_)
  (refine cL ?_;refine dL (yxs p s m o) ?_)
  cases hp:zgs s m o p with
  | true =>
   conv=>whnf
   try refine sG ?_
   refine zaa (c:=(((A.filter (zgs s m o)).map zav.row).length+1)*136<=140737488355328) zz3 (zw ?_)
   try refine sG ?_
   refine sF ?_;exact ⟨⟨(A++[p],B),by rw [h];simp⟩,(zcc (pK5 [(900,some 31)]) (by repeat' (first | exact z0 | refine z1 ?_ | refine ⟨?_,?_⟩ | ((exact zbc (f:=zav.row) (by rw [zy45,zy49,zy1 hp];rfl) rfl)) | exact z2))),by simp⟩
  | false =>
   conv=>whnf
   try refine sG ?_
   refine sF ?_;exact ⟨⟨(A++[p],B),by rw [h];simp⟩,(zcc (pK5 [(900,some 900)]) (by repeat' (first | exact z0 | refine z1 ?_ | refine ⟨?_,?_⟩ | ((exact zar (by rw [zy45,zy49,zy0 (by rw [hp];decide)];simp))) | exact z2))),by simp⟩
 | nil =>
  rw [zy12] at hl;rw [zy5] at h;have ht:=zkw (zgs s m o) A;have hA:tot A=tot r.pieces:=by rw [h]
  have hd:dlv r s m o=match join (A.filter (zgs s m o)) with
   | none=>(r,false)
   | some b=>({zpo r s m o with log:=r.log++[⟨s,m,o,b⟩]},true):=by rw [dlv,h]
  have ps:=yxn (A.filter (zgs s m o)) zz0 zz0;refine sN ?_;cases hj:join (A.filter (zgs s m o)) with
  | none =>
   rw [hj] at hd ps;rw [hd]
   (refine zat [(0,35)]  ?_;(conv=>whnf);refine dO ps ?_)
   exact yy123
  | some b =>
   rw [hj] at hd ps;rw [hd]
   (refine zat [(0,35)]  ?_;(conv=>whnf);refine dO ps ?_)
   refine zaa (c:=((r.log.map zbf.row).length+1)*48<=140737488355328) zz3 (zw ?_)
   try refine sG ?_
   (refine zaf [] [(1000,1000),(1001,1001),(1002,1002),(1003,1003),(1004,52)] [(0,910),(1,911),(2,912),(3,913)] ?_;(conv=>whnf);refine dG (zwx {r with log:=r.log++[⟨s,m,o,b⟩]} s m o zz83) ?_ ⟨rfl,rfl,rfl,⟨zz1,⟨zz1,⟨zz1,⟨zz1,⟨⟨rfl,_,rfl,.inl ⟨rfl,zbc (f:=zbf.row) (x:=⟨s,m,o,b⟩) rfl rfl⟩⟩,trivial⟩⟩⟩⟩⟩,⟨⟨rfl,rfl⟩,⟨⟨rfl,rfl⟩,⟨⟨rfl,rfl⟩,⟨⟨rfl,rfl⟩,trivial⟩⟩⟩⟩,rfl,rfl,rfl⟩)
   exact yy95
theorem xaa {l:List zav} {b:List UInt8} (h:join l=some b):0<l.length:=by
 unfold join at h;split at h
 . cases h
 . rename_i c;exact zy36.2 c
theorem zng {r:Receiver} {s m:Int} {o:Bool} (h:(dlv r s m o).2=true):(dlv r s m o).1.pieces.length<r.pieces.length:=by
 unfold dlv at h ⊢;split
 . rename_i hj;rw [hj] at h;cases h
 . rename_i b hj
   have h1:=xaa hj;have h2:(r.pieces.filter fun p=>!zgs s m o p).length+(r.pieces.filter (zgs s m o)).length=r.pieces.length:=by
    induction r.pieces with
    | nil=>rfl
    | cons p l ih =>
     rw [zy49,zy49];cases zgs s m o p<;>simp<;>omega
   show (r.pieces.filter fun p=>!zgs s m o p).length<_;omega
theorem zis (r:Receiver) (s m:Int) (o:Bool):(dlv r s m o).1.zbp=r.zbp/\(dlv r s m o).1.cum=r.cum/\(dlv r s m o).1.zas=r.zas/\(dlv r s m o).1.config=r.config/\(dlv r s m o).1.pieces.length<=r.pieces.length/\tot (dlv r s m o).1.pieces<=tot r.pieces /\
 (dlv r s m o).1.log.length+(dlv r s m o).1.pieces.length<=r.log.length+r.pieces.length:=by
 have hl:=fun h=>zng (r:=r) (s:=s) (m:=m) (o:=o) h
 unfold dlv at hl ⊢;split
 . exact ⟨rfl,rfl,rfl,rfl,zy24 _,zy24 _,zy24 _⟩
 . rename_i b hj
   rw [hj] at hl;have h1:=hl rfl;dsimp only [zpo] at h1 ⊢;refine ⟨rfl,rfl,rfl,rfl,zy27 _ _,zkw _ _,?_⟩;simp only [zy10,zy69];omega
def zyk (r:Receiver) (k:Nat):Receiver:={r with zbp:=r.zbp.set k (r.zbp[k]?.getD 0+1)}
def zxl:Nat->Receiver->Nat->Receiver
 | 0,r,_=>r
 | n+1,r,k=>if (dlv r k (tag (r.zbp[k]?.getD 0)) true).2 then zxl n (zyk (dlv r k (tag (r.zbp[k]?.getD 0)) true).1 k) k else (dlv r k (tag (r.zbp[k]?.getD 0)) true).1
def turns (r:Receiver) (k:Nat):Receiver:=zxl (r.pieces.length+1) r k
theorem zsn (r:Receiver) (k:Nat):turns r k=if (dlv r k (tag (r.zbp[k]?.getD 0)) true).2 then turns (zyk (dlv r k (tag (r.zbp[k]?.getD 0)) true).1 k) k else (dlv r k (tag (r.zbp[k]?.getD 0)) true).1:=by
 have gen:∀ (n m:Nat) (r:Receiver),r.pieces.length<n->r.pieces.length<m->zxl n r k=zxl m r k:=by
  intro n
  induction n with
  | zero=>intro m r h;omega
  | succ n ih =>
   intro m r h1 h2;cases m with
   | zero=>omega
   | succ m =>
    rw [zxl,zxl];split
    . rename_i hd
      have:=zng hd;exact ih m _ (by show (dlv r k _ true).1.pieces.length<n;omega) (by show (dlv r k _ true).1.pieces.length<m;omega)
    . rfl
 conv=>lhs;rw [turns,zxl]
 split
 . rename_i hd
   have:=zng hd;exact gen _ _ _ (by show (dlv r k _ true).1.pieces.length<_;omega) (by show (dlv r k _ true).1.pieces.length<_;exact zy150 _)
 . rfl
structure yst (r:Receiver) (k:Nat):Prop where
 pieces:r.pieces.length<2 ^ 22
 bytes:tot r.pieces<2 ^ 22
 log:r.log.length+r.pieces.length<2 ^ 37
 has:k<r.zbp.length
 lo:-(2 ^ 60)<r.zbp[k]?.getD 0
 hi:r.zbp[k]?.getD 0+r.pieces.length<2 ^ 60
theorem yyf (r:Receiver) (k:Nat) (hf:yst r k) :
 zan Tryz.prog 182 [.ptr 1000 0,i64 k] (lk .free (tkH r)) (.tup []) (lk .free (tkD (turns r k))):=by
 generalize hT:turns r k=T;refine zaq mixed Tryz.func182 zz4 [1000,1001,1002,1003,1004] zbq ?_;(conv=>whnf);refine ⟨{x:Receiver // yst x k/\turns x k=T},fun | ⟨x,_⟩=>hsP [1000,1001,1002,1003,1004] 26 [(0,.ptr 1000 0),(1,i64 k)] ((1000,.live (.cells 225 (ych x (.own 900) (.own 901) (.own 902) (.own 903))))::yyu x 900 901 902 903 [(1001,.dead),(1002,.dead),(1003,.dead),(1004,.dead)]),fun x=>x.1.pieces.length,⟨r,hf,hT⟩,?_,?_⟩
 . exact (zdj (pK5 [(900,some 1001),(901,some 1002),(902,some 1003),(903,some 1004)]))
 rintro ⟨x,⟨h1,h2,h3,h4,h5,h6⟩,he⟩;(conv=>whnf);refine sO ?_;refine zca k rfl h4 (zw ?_);have hg:x.zbp[k]?.getD 0=x.zbp[k]:=by simp [h4]
 (refine cL ?_;refine dL (zdl _) ?_)
 have hstep:=zsn x k;rw [he,hg] at hstep;rw [hg] at h5 h6;obtain ⟨k1,k2,k3,k4,k5,k6,k7⟩:=zis x k (tag x.zbp[k]) true;have hless:(dlv x k (tag x.zbp[k]) true).2=true->(dlv x k (tag x.zbp[k]) true).1.pieces.length<x.pieces.length:=fun h=>zng h
 (refine zaf [] [(1000,1000),(1001,900),(1002,901),(1003,902),(1004,903)] [(0,910),(1,911),(2,912),(3,913)] ?_;(conv=>whnf);refine dG (zmw x k (tag x.zbp[k]) true zz0 zz0 zz0) ?_)
 generalize hD:dlv x k (tag x.zbp[k]) true=D at *
 obtain ⟨y,ok⟩:=D;dsimp only at k1 k2 k3 k4 k5 k6 k7 hless hstep;have h4':k<y.zbp.length:=by rw [k1];exact h4
 have hyk:y.zbp[k]=x.zbp[k]:=by simp only [k1]
 cases ok with
 | false =>
  have hstep:T=y:=hstep;subst hstep;(conv=>whnf)
  try refine sG ?_
  exact yy95
 | true =>
  have hless:=hless rfl;(conv=>whnf)
  try refine sG ?_
  refine sO ?_;refine zca k rfl h4' (zw ?_);rw [hyk];refine sF ?_;refine sO ?_;refine zca k rfl h4' (zw ?_);have hb:(zyk y k).zbp[k]?.getD 0=x.zbp[k]+1:=by
   show (y.zbp.set k (y.zbp[k]?.getD 0+1))[k]?.getD 0=_;rw [zy41 h4',zy3 h4',hyk];rfl
  refine ⟨⟨zyk y k,⟨by show y.pieces.length<_;omega,by show tot y.pieces<_;omega,by show y.log.length+y.pieces.length<_;omega,by show k<(y.zbp.set k _).length;rw [zy26];exact h4',by rw [hb];omega,by rw [hb];show _+(y.pieces.length:Int)<_;omega⟩,?_⟩,(zcc (pK5 [(900,some 910),(901,some 911),(902,some 912),(903,some 913)]) zz24),by show y.pieces.length<x.pieces.length;omega⟩;rw [hstep];rfl
end Rcv
namespace Rcv
open Srt Jn Ser
theorem zxg (r:Receiver) (k:Nat) (z:Int) (hz:z=k) (hf:yst r k) :
 zan Tryz.prog 182 [.ptr 1000 0,i64 z] (lk .free (tkH r)) (.tup []) (lk .free (tkD (turns r k))):=by
 subst hz;exact yyf r k hf
structure zuq (r:Receiver) (c:Chunk) (n:Int):Prop where
 kind:c.kind=1
 low:0<=c.stream
 high:c.stream<r.zbp.length
 zfr:r.cum<n
 fresh:has r.zas n=false
 room:n=r.cum+1\/(tot r.pieces:Int)+c.data.length<=400
def put (r:Receiver) (c:Chunk):Receiver :=
 {r with pieces:=r.pieces++[⟨zde r.cum c.tag,c⟩],cum:=(up (add r.zas (zde r.cum c.tag)) r.cum).1,zas:=(up (add r.zas (zde r.cum c.tag)) r.cum).2}
instance xie (r:Receiver) (c:Chunk) (n:Int):Decidable (zuq r c n) :=
 decidable_of_iff (c.kind=1/\0<=c.stream/\c.stream<r.zbp.length/\r.cum<n/\has r.zas n=false/\(n=r.cum+1\/(tot r.pieces:Int)+c.data.length<=400)) ⟨fun ⟨a,b,d,e,f,g⟩=>⟨a,b,d,e,f,g⟩,fun ⟨a,b,d,e,f,g⟩=>⟨a,b,d,e,f,g⟩⟩
def data (r:Receiver) (c:Chunk):Receiver:=if zuq r c (zde r.cum c.tag) then (if c.ordered then turns (put r c) c.stream.toNat else (dlv (put r c) c.stream c.mid false).1) else r
structure xig (r:Receiver) (c:Chunk):Prop where
 fit:Fit r
 zjy:zjy r.zas
 hi:∀ s∈r.zas,s.hi<=2 ^ 39
 cum1:-(2 ^ 39)<=r.cum
 cum2:r.cum<=2 ^ 39
 zbp:∀ t∈r.zbp,-(2 ^ 59)<t/\t<2 ^ 59
 data:c.data.length<2 ^ 21
 more:tot r.pieces<2 ^ 21
 many:r.pieces.length<2 ^ 21
theorem ysw {l:List Span} {n M:Int} (h:Ser.zjy l) (h1:-9223372036854775808<=n) (h2:n<=9223372036854775807) (hl:∀ s∈l,s.hi<=M) (hn:n<=M):∀ s∈add l n,s.hi<=M:=by
 obtain ⟨r1,r2⟩:=yam h h1 h2;intro s hs;have h3:=(zhl r1 s hs).1;have h4:has (add l n) s.hi=true:=yjx.2 ⟨s,hs,h3,zy70 _⟩;rw [r2,zy123] at h4;rcases h4 with h4 | h4
 . obtain ⟨t,ht,_,h5⟩:=yjx.1 h4
   have:=hl t ht;omega
 . have:s.hi=n:=by simpa using h4
   omega
theorem yal (l:List Span) (n:Int):(add l n).length<=l.length+1:=by
 unfold add;split
 . omega
 . have h1:(zty n (below l n)).1.length<=(below l n).length:=by
    unfold zty;split
    . split
      . simp
      . exact zy24 _
    . exact zy24 _
   have h2:(zpd n (zfr l n)).2.length<=(zfr l n).length:=by
    cases zfr l n with
    | nil=>exact zy24 _
    | cons t r=>simp only [zpd];split<;>simp
   have h3:l.length=(below l n).length+(zfr l n).length:=by
    conv=>lhs;rw [split l n]
    exact zy10
   simp only [zy10,zy6];omega
theorem yxk (r:Receiver) (c:Chunk) (hf:xig r c):zan Tryz.prog 152 [r.hv,c.hv] zad (xhi (data r c) 0 1 2 3) (lk .free (yyu (data r c) 0 1 2 3 [])):=by
 obtain ⟨h1,h2,h3,h4,h5,h6,h7,h8,h9⟩:=hf;obtain ⟨n1,n2,n3⟩:=ziy (a:=r.cum) (t:=c.tag) zz0 zz0;generalize hD:data r c=D;refine zaq mixed Tryz.func152 zz4 [] (fun _=>.inl rfl) ?_;(conv=>whnf)
 (refine zat [(0,910),(1,911),(2,912),(3,913)]  ?_;(conv=>whnf);refine dO (zdu r h1) ?_)
 (refine cL ?_;refine dL (zko r.cum c.tag) ?_)
 have no:¬ zuq r c (zde r.cum c.tag)->D=r:=fun h=>by rw [<- hD,data,zy0 h]
 by_cases c1:c.kind=1
 case neg =>
  obtain rfl:=no fun h=>c1 h.1
  refine zac zz39 ?_;conv=>whnf
  exact yy60
 refine zab zz150 (zw ?_);by_cases c2:c.stream<0
 . obtain rfl:=no fun h=>by have:=h.2;omega
   refine zac zz29 ?_;conv=>whnf
   exact yy60
 refine zab zz29 (zw ?_);by_cases c3:c.stream>=r.zbp.length
 . obtain rfl:=no fun h=>by have:=h.3;omega
   refine zac zz89 (zw ?_);exact yy60
 refine zab zz89 (zw ?_);by_cases c4:zde r.cum c.tag<=r.cum
 . obtain rfl:=no fun h=>by have:=h.4;omega
   refine zac zz122 (zw ?_);exact yy60
 refine zab zz122 (zw ?_)
 (refine cL ?_;refine dL (ypc r.zas (zde r.cum c.tag) (by have:=h1.zas;omega)) ?_)
 cases c5:has r.zas (zde r.cum c.tag) with
 | true =>
  obtain rfl:=no fun h=>by have:=h.5;rw [c5] at this;cases this
  (conv=>whnf);exact yy60
 | false =>
 (conv=>whnf);refine sF ?_;have g1:=h1.zas;have g2:=h1.log;have rest:zuq r c (zde r.cum c.tag)->D=if c.ordered then turns (put r c) c.stream.toNat else (dlv (put r c) c.stream c.mid false).1:=fun h=>by rw [<- hD,data,zy1 h]
 have yzo:tot (put r c).pieces=tot r.pieces+c.data.length:=by show tot (r.pieces++[_])=_;rw [zmz,zfj];rfl
 have hpl:(put r c).pieces.length=r.pieces.length+1:=by show (r.pieces++[_]).length=_;simp
 have hadd:=ysw (n:=zde r.cum c.tag) (M:=1099511627776) h2 zz0 zz0 (fun s hs=>by have:=h3 s hs;omega) zz0;have hal:=yal r.zas (zde r.cum c.tag);by_cases c6:zde r.cum c.tag=r.cum+1
 case' pos =>
  have ok:zuq r c (zde r.cum c.tag):=⟨c1,by omega,by omega,by omega,c5,.inl c6⟩
  refine zab (by simpa using c6) ?_;conv=>whnf
  ((refine zaw ?_ ?_;(· kernel_rfl);conv=>whnf);try refine sG ?_)
 case' neg =>
  refine zac (by simpa using c6) (zw ?_)
  (refine cL ?_;refine dL (yhz r zz0 zz0) ?_)
  refine sF ?_;by_cases c7:(tot r.pieces:Int)+c.data.length>400
  case pos =>
   obtain rfl:=no fun h=>by have:=h.6;omega
   refine sD ?_;refine zac zz153 (zw ?_);exact yy116
  have ok:zuq r c (zde r.cum c.tag):=⟨c1,by omega,by omega,by omega,c5,.inr zz0⟩
  refine sD ?_;refine zab zz153 (zw ?_)
  try refine sG ?_
 all_goals (
  have rest:=rest ok
  (refine zat [(0,66)]  ?_;(conv=>whnf);refine dO (Cl.zdc c.data zz0) ?_)
  refine zaa (c:=((r.pieces.map zav.row).length+1)*136<=140737488355328) zz3 (zw ?_);refine sD ?_
  (refine zat [(0,88)]  ?_;(conv=>whnf);refine dO (xbn r.zas (zde r.cum c.tag) h2 zz0 zz0 zz0) ?_)
  (refine zat [(0,92)]  ?_;(conv=>whnf);refine dO (yyg (add r.zas (zde r.cum c.tag)) r.cum hadd zz0 zz0 zz0) ?_)
  refine sD ?_;obtain ⟨k,hk⟩:∃ k:Nat,c.stream=k:=⟨c.stream.toNat,by omega⟩
  have hkl:k<r.zbp.length:=by omega
  have htk:(put r c).zbp[k]?.getD 0=r.zbp[k]:=by show r.zbp[k]?.getD 0=_;rw [zy3 hkl];rfl
  have htb:=h6 _ (zy52 hkl);refine zah (fun ho=>?_) (fun ho=>?_)
  . rw [zy1 ho,show c.stream.toNat=k by omega] at rest
    subst rest;(conv=>whnf)
    (refine zaf [] [(1000,10),(1001,92),(1002,78),(1003,912),(1004,913)] [(0,920),(1,921),(2,922),(3,923)] ?_;(conv=>whnf);refine dG (zxg (put r c) k _ hk ⟨by omega,by omega,by show r.log.length+_<_;omega,hkl,by rw [htk];omega,by rw [htk];omega⟩) ?_ ⟨rfl,rfl,rfl,⟨zz1,⟨zz1,⟨⟨rfl,_,rfl,.inl ⟨rfl,zbc (f:=zav.row) (x:=⟨zde r.cum c.tag,c⟩) rfl rfl⟩⟩,⟨zz1,⟨zz1,trivial⟩⟩⟩⟩⟩,⟨⟨rfl,rfl⟩,⟨⟨rfl,rfl⟩,⟨⟨rfl,rfl⟩,⟨⟨rfl,rfl⟩,trivial⟩⟩⟩⟩,rfl,rfl,rfl⟩)
    (exact zci [(0,some 920),(1,some 921),(2,some 922),(3,some 923)])
  . rw [zy0 (by rw [ho];decide)] at rest
    subst rest;(conv=>whnf)
    (refine zaf [] [(1000,10),(1001,92),(1002,78),(1003,912),(1004,913)] [(0,920),(1,921),(2,922),(3,923)] ?_;(conv=>whnf);refine dG (zmw (put r c) c.stream c.mid false zz0 zz0 (by show r.log.length<_;omega)) ?_ ⟨rfl,rfl,rfl,⟨zz1,⟨zz1,⟨⟨rfl,_,rfl,.inl ⟨rfl,zbc (f:=zav.row) (x:=⟨zde r.cum c.tag,c⟩) rfl rfl⟩⟩,⟨zz1,⟨zz1,trivial⟩⟩⟩⟩⟩,⟨⟨rfl,rfl⟩,⟨⟨rfl,rfl⟩,⟨⟨rfl,rfl⟩,⟨⟨rfl,rfl⟩,trivial⟩⟩⟩⟩,rfl,rfl,rfl⟩)
    (exact zci [(0,some 920),(1,some 921),(2,some 922),(3,some 923)]))
def shift (c:Int) (s:Span):Span:=⟨s.lo-c,s.hi-c⟩
def zlo (r:Receiver):Chunk:=⟨2,tag r.cum,0,0,0,false,false,[],(r.zas.take 6).map (shift r.cum),(if 0>400-(tot r.pieces:Int) then 0 else 400-(tot r.pieces:Int)),[]⟩
theorem zsk {α:Type} (A:List α) (x:α) (f:α->α):((A++[x]).take 6).map f=if A.length<6 then (A.take 6).map f++[f x] else (A.take 6).map f:=by
 split
 . rename_i h
   rw [zy35 (by simp;omega),zy35 (by omega)];simp
 . rename_i h
   rw [zy77 (by omega)]
abbrev xhn (r:Receiver) (v:HV):List HV:=[i64 2,i64 (zlo r).tag,i64 0,i64 0,i64 0,zbj false,zbj false,zeg,v,i64 (zlo r).room,zeg]
theorem yxy (r:Receiver) (h1:r.zas.length<2 ^ 40) (h2:r.pieces.length<2 ^ 40) (h3:tot r.pieces<2 ^ 60) (hc:-(2 ^ 60)<=r.cum) (hc2:r.cum<=2 ^ 60) (hsp:∀ s∈r.zas,-(2 ^ 61)<=s.lo/\s.lo<=2 ^ 61/\-(2 ^ 61)<=s.hi/\s.hi<=2 ^ 61) :
 zan Tryz.prog 154 [r.hv] zad (.agg (xhn r (.own 0))) (lk .free [(0,xfd (zlo r).zas)]):=by
 refine zaq mixed Tryz.func154 zz4 [] (fun _=>.inl rfl) ?_;(conv=>whnf)
 (refine cL ?_;refine dL (zdl r.cum) ?_)
 (refine cL ?_;refine dL (yhz r zz0 zz0) ?_)
 refine sF ?_;refine sD ?_;refine ⟨{x:List Span×List Span // r.zas=x.1++x.2},fun | ⟨(A,B),_⟩=>hs 43 [(1,.ptr 1 0),(2,.ptr 2 0),(3,.ptr 3 0),(15,zas r.zas),(16,i64 r.zas.length),(17,i64 A.length)] [(1,.live (.cells 37 (ych r (zas r.zas) (pieces r.pieces) (.p (.sl 1 (r.zbp.map fun n=>[pi n]))) (.p (.sl 4 (r.log.map zbf.row)))))),(2,.live (.cells 61 [i64 0,i64 0,i64 0,i64 0,i64 0,zbj false,zbj false,zeg,zeg,i64 0,zeg])),(3,.live (.cells 61 (xhn r (.own 900)))),(900,xfd ((A.take 6).map (shift r.cum)))],fun x=>x.1.2.length,⟨([],r.zas),rfl⟩,?_,?_⟩
 . exact (zbe [(1,some 1),(2,some 2),(3,some 3),(900,none)])
 rintro ⟨⟨A,B⟩,h⟩;dsimp only at h;have hl:r.zas.length=A.length+B.length:=by rw [h];simp
 (conv=>whnf);cases B with
 | cons p B =>
  have hp:=hsp p zz109;rw [zy6] at hl;have hq:((A.take 6).map (shift r.cum)).length=min 6 A.length:=by simp
  refine sT ?_;refine zaj h rfl (zw ?_);have hsn:=zsk A p (shift r.cum);by_cases c:A.length<6
  . rw [zy1 c] at hsn
    refine sT ?_;refine sF ?_;refine sF ?_;refine zaa (c:=((((A.take 6).map (shift r.cum)).map Span.row).length+1)*16<=140737488355328) zz3 (zw ?_)
    try refine sG ?_
    refine sF ?_;refine ⟨⟨(A++[p],B),by rw [h];simp⟩,(zax [(1,some 1),(2,some 2),(3,some 3),(900,some 39)] zz51),by simp⟩
  . rw [zy0 c] at hsn
    refine sN ?_;refine sF ?_;refine ⟨⟨(A++[p],B),by rw [h];simp⟩,(zax [(1,some 1),(2,some 2),(3,some 3),(900,some 900)] zz53),by simp⟩
 | nil =>
  rw [zy12] at hl;rw [zy5] at h;refine sN ?_
  (exact zcx [(0,some 900)] (by repeat' (first | exact z0 | refine z1 ?_ | refine ⟨?_,?_⟩ | ((exact zar (by rw [<- h];rfl))) | exact z2)))
end Rcv
namespace Rcv
open Srt Jn Ser
def pass (r:Receiver) (k:Nat):Receiver:=zyk (if (dlv r k (tag (r.zbp[k]?.getD 0)) true).2 then (dlv r k (tag (r.zbp[k]?.getD 0)) true).1 else zpo (dlv r k (tag (r.zbp[k]?.getD 0)) true).1 k (tag (r.zbp[k]?.getD 0)) true) k
def zzk:Nat->Receiver->Nat->Receiver
 | 0,r,_=>r
 | n+1,r,k=>zzk n (pass r k) k
def ydn (r:Receiver) (k:Nat) (n:Int):Receiver:=zzk (n+1-r.zbp[k]?.getD 0).toNat r k
def zhz (r:Receiver) (s:zdx):Receiver :=
 if s.stream<0\/(r.zbp.length:Int)<=s.stream then r else if s.ordered=false then zpo r s.stream s.mid false
 else turns (ydn r s.stream.toNat (zde (r.zbp[s.stream.toNat]?.getD 0) s.mid)) s.stream.toNat
structure xiy (r:Receiver):Prop where
 pieces:r.pieces.length<2 ^ 22
 bytes:tot r.pieces<2 ^ 22
 log:r.log.length+r.pieces.length<2 ^ 37
 lo:∀ t∈r.zbp,-(2 ^ 57)<t
 hi:∀ t∈r.zbp,t<2 ^ 57
theorem znn (r:Receiver) (k:Nat):(pass r k).zbp=r.zbp.set k (r.zbp[k]?.getD 0+1)/\(pass r k).cum=r.cum/\(pass r k).zas=r.zas/\(pass r k).config=r.config/\(pass r k).pieces.length<=r.pieces.length/\tot (pass r k).pieces<=tot r.pieces /\
 (pass r k).log.length+(pass r k).pieces.length<=r.log.length+r.pieces.length:=by
 obtain ⟨h1,h2,h3,h4,h5,h6,h7⟩:=zis r k (tag (r.zbp[k]?.getD 0)) true;unfold pass;generalize dlv r k (tag (r.zbp[k]?.getD 0)) true=D at *
 obtain ⟨y,ok⟩:=D;dsimp only at h1 h2 h3 h4 h5 h6 h7 ⊢;cases ok with
 | true=>exact ⟨by show y.zbp.set _ (y.zbp[k]?.getD 0+1)=_;rw [h1],h2,h3,h4,h5,h6,h7⟩
 | false =>
  have f1:=zy27 (fun p=>!zgs k (tag (r.zbp[k]?.getD 0)) true p) y.pieces;have f2:=zkw (fun p=>!zgs k (tag (r.zbp[k]?.getD 0)) true p) y.pieces;refine ⟨by show y.zbp.set _ (y.zbp[k]?.getD 0+1)=_;rw [h1],h2,h3,h4,?_,?_,?_⟩
  . show (List.filter _ _).length<=_;omega
  . show tot (List.filter _ _)<=_;omega
  . show _+(List.filter _ _).length<=_;show y.log.length+_<=_;omega
theorem zxp {r:Receiver} {k:Nat} {n:Int} (h:k<r.zbp.length) (hn:r.zbp[k]?.getD 0<=n):ydn r k n=ydn (pass r k) k n:=by
 obtain ⟨h1,_⟩:=znn r k;unfold ydn;rw [h1,zy41 h];show zzk _ _ _=zzk (n+1-(r.zbp[k]?.getD 0+1)).toNat _ _;obtain ⟨j,hj⟩:∃ j,(n+1-r.zbp[k]?.getD 0).toNat=j+1:=⟨(n+1-r.zbp[k]?.getD 0).toNat-1,by omega⟩
 rw [hj,zzk,show (n+1-(r.zbp[k]?.getD 0+1)).toNat=j by omega]
theorem ydo {r:Receiver} {k:Nat} {n:Int} (hn:n<r.zbp[k]?.getD 0):ydn r k n=r:=by
 unfold ydn;rw [show (n+1-r.zbp[k]?.getD 0).toNat=0 by omega];rfl
theorem zxf (r:Receiver) (s:zdx) (hf:xiy r) :
 zan Tryz.prog 184 [.ptr 1000 0,s.hv] (lk .free (tkH r)) (.tup []) (lk .free (tkD (zhz r s))):=by
 obtain ⟨f1,f2,f3,f4,f5⟩:=hf;generalize hT:zhz r s=T;refine zaq mixed Tryz.func184 zz4 [1000,1001,1002,1003,1004] zbq ?_;(conv=>whnf);by_cases c1:s.stream<0
 . rw [zhz,zy1 (.inl c1)] at hT
   subst hT;refine zac zz39 ?_;conv=>whnf
   refine sD ?_;exact yy123
 refine zab zz39 (zw ?_);refine sD ?_;by_cases c2:(r.zbp.length:Int)<=s.stream
 . rw [zhz,zy1 (.inr c2)] at hT
   subst hT;refine zac zz29 ?_;conv=>whnf
   exact yy123
 refine zab zz29 (zw ?_);cases hs3:s.ordered with
 | false =>
  rw [zhz,zy0 (by omega),zy1 hs3] at hT;subst hT;(conv=>whnf)
  try refine sG ?_
  (refine zaf [] [(1000,1000),(1001,1001),(1002,1002),(1003,1003),(1004,1004)] [(0,910),(1,911),(2,912),(3,913)] ?_;(conv=>whnf);refine dG (zwx r s.stream s.mid false zz0) ?_)
  exact yy95
 | true =>
 rw [zhz,zy0 (by omega),zy0 (by rw [hs3];decide)] at hT;obtain ⟨k,hk⟩:∃ k:Nat,s.stream=k:=⟨s.stream.toNat,by omega⟩
 have hkl:k<r.zbp.length:=by omega
 have hg:r.zbp[k]?.getD 0=r.zbp[k]:=by simp [hkl]
 have b1:=f4 _ (zy52 hkl);have b2:=f5 _ (zy52 hkl);rw [show s.stream.toNat=k by omega,hg] at hT;(conv=>whnf)
 try refine sG ?_
 refine sO ?_;refine zca k zz0 hkl (zw ?_)
 (refine cL ?_;refine dL (zko r.zbp[k] s.mid) ?_)
 refine sD ?_;obtain ⟨n1,n2,n3⟩:=ziy (a:=r.zbp[k]) (t:=s.mid) zz0 zz0;generalize zde r.zbp[k] s.mid=n at hT n1 n2 n3 ⊢;refine ⟨{x:Receiver // yst x k/\x.zbp[k]?.getD 0<=2 ^ 58/\turns (ydn x k n) k=T},fun | ⟨x,_⟩=>hsP [1000,1001,1002,1003,1004] 88 [(0,.ptr 1000 0),(3,.ptr 3 0),(4,i64 n)] ((1000,.live (.cells 225 (ych x (.own 900) (.own 901) (.own 902) (.own 903))))::yyu x 900 901 902 903 [(3,.live (.cells 180 [i64 s.stream,i64 s.mid,zbj true])),(1001,.dead),(1002,.dead),(1003,.dead),(1004,.dead)]),fun x=>(n+1-x.1.zbp[k]?.getD 0).toNat,⟨r,⟨f1,f2,f3,hkl,by rw [hg];omega,by rw [hg];omega⟩,by rw [hg];omega,hT⟩,?_,?_⟩
 . exact (zdj (pK5 ((900,some 1001)::(901,some 1002)::(902,some 1003)::(903,some 1004)::[(3,some 3)])))
 rintro ⟨x,⟨h1,h2,h3,h4,h5,h6⟩,h7,he⟩;(conv=>whnf);refine sO ?_;refine zca k zz0 h4 (zw ?_);refine sD ?_;have hx:x.zbp[k]?.getD 0=x.zbp[k]:=by simp [h4]
 rw [hx] at h5 h6 h7;by_cases c3:x.zbp[k]<=n
 . rw [zxp h4 (by omega)] at he
   obtain ⟨k1,k2,k3,k4,k5,k6,k7⟩:=znn x k;rw [hx] at k1;have hpas:pass x k=zyk (if (dlv x k (tag x.zbp[k]) true).2 then (dlv x k (tag x.zbp[k]) true).1 else zpo (dlv x k (tag x.zbp[k]) true).1 k (tag x.zbp[k]) true) k:=by rw [pass,hx]
   obtain ⟨d1,d2,d3,d4,d5,d6,d7⟩:=zis x k (tag x.zbp[k]) true;have hgt:(pass x k).zbp[k]?.getD 0=x.zbp[k]+1:=by rw [k1,zy41 h4];rfl
   have next:yst (pass x k) k/\(pass x k).zbp[k]?.getD 0<=2 ^ 58/\turns (ydn (pass x k) k n) k=T:=⟨⟨by omega,by omega,by omega,by rw [k1,zy26];exact h4,by rw [hgt];omega,by rw [hgt];omega⟩,by rw [hgt];omega,he⟩
   have less:(n+1-(pass x k).zbp[k]?.getD 0).toNat<(n+1-x.zbp[k]?.getD 0).toNat:=by rw [hgt,hx];omega
   refine sT ?_;refine sO ?_;refine zca k zz0 h4 (zw ?_)
   (refine cL ?_;refine dL (zdl _) ?_)
   refine sD ?_
   (refine zaf [] [(1000,1000),(1001,900),(1002,901),(1003,902),(1004,903)] [(0,910),(1,911),(2,912),(3,913)] ?_;(conv=>whnf);refine dG (zmw x s.stream (tag x.zbp[k]) true zz0 zz0 zz0) ?_)
   rw [<- hk] at hpas d1 d2 d3 d4 d5 d6 d7;have hbm:∀ (y:Receiver) (z:Int),y.zbp=x.zbp->z=x.zbp[k]+1->zai.live (.row 3 1 ((zyk y k).zbp.map fun n=>[pi n]))=zai.live (.row 3 1 ((y.zbp.map fun n=>[pi n]).set s.stream.toNat [pi z])):=fun y z hy hz=>by
    refine zar ?_;show (y.zbp.set k (y.zbp[k]?.getD 0+1)).map _=_;rw [hy,hx,zy62,hz,show s.stream.toNat=k by omega]
   generalize dlv x s.stream (tag x.zbp[k]) true=D at *
   obtain ⟨y,ok⟩:=D;dsimp only at d1 d2 d3 d4 d5 d6 d7 hpas;have h4y:k<y.zbp.length:=by rw [d1];exact h4
   have hyk:y.zbp[k]=x.zbp[k]:=by simp only [d1]
   cases ok with
   | true =>
    have hpas:pass x k=zyk y k:=hpas;(conv=>whnf)
    try refine sG ?_
    refine sO ?_;refine zca k zz0 h4y (zw ?_);rw [hyk];refine sF ?_;refine sO ?_;refine zca k zz0 h4y (zw ?_);refine sD ?_;rw [hpas] at next less;refine ⟨⟨_,next⟩,(zcc (pK5 ((3,some 3)::[(900,some 910),(901,some 911),(902,some 912),(903,some 913)])) (by repeat' (first | exact z0 | refine z1 ?_ | refine ⟨?_,?_⟩ | ((exact hbm y (x.zbp[k]+1) d1 rfl)) | ((exact (hbm y (x.zbp[k]+1) d1 rfl).symm)) | exact z2))),less⟩
   | false =>
    have hpas:pass x k=zyk (zpo y s.stream (tag x.zbp[k]) true) k:=by rw [hpas,hk];rfl
    conv=>whnf
    try refine sG ?_
    (refine zaf [] [(1000,1000),(1001,910),(1002,911),(1003,912),(1004,913)] [(0,920),(1,921),(2,922),(3,923)] ?_;(conv=>whnf);refine dG (zwx y s.stream (tag x.zbp[k]) true zz0) ?_)
    have e1:(zpo y s.stream (tag x.zbp[k]) true).zbp=x.zbp:=d1;generalize zpo y s.stream (tag x.zbp[k]) true=w at hpas e1 ⊢;have h4w:k<w.zbp.length:=by rw [e1];exact h4
    have hwk:w.zbp[k]=x.zbp[k]:=by simp only [e1]
    refine sO ?_;refine zca k zz0 h4w (zw ?_);rw [hwk];refine sF ?_;refine sO ?_;refine zca k zz0 h4w (zw ?_);refine sD ?_;rw [hpas] at next less;refine ⟨⟨_,next⟩,(zcc (pK5 ((3,some 3)::[(900,some 920),(901,some 921),(902,some 922),(903,some 923)])) (by repeat' (first | exact z0 | refine z1 ?_ | refine ⟨?_,?_⟩ | ((exact hbm w (x.zbp[k]+1) e1 rfl)) | ((exact (hbm w (x.zbp[k]+1) e1 rfl).symm)) | exact z2))),less⟩
 . rw [ydo (by omega)] at he
   subst he;refine sN ?_
   (refine zaf [] [(1000,1000),(1001,900),(1002,901),(1003,902),(1004,903)] [(0,910),(1,911),(2,912),(3,913)] ?_;(conv=>whnf);refine dG (zxg x k _ hk ⟨h1,h2,h3,h4,by omega,by omega⟩) ?_ ⟨rfl,rfl,rfl,⟨zz1,⟨zz1,⟨zz1,⟨zz1,⟨zz1,trivial⟩⟩⟩⟩⟩,⟨⟨rfl,rfl⟩,⟨⟨rfl,rfl⟩,⟨⟨rfl,rfl⟩,⟨⟨rfl,rfl⟩,trivial⟩⟩⟩⟩,rfl,rfl,rfl⟩)
   exact yy95
end Rcv
namespace Rcv
open Srt Jn Ser
theorem yfy {n:Nat}:∀ {S:List zav} {i:Nat} {b:List UInt8},zmn n i S=some b->b.length=tot S
 | [],_,_,h=>by rw [zmn] at h;cases h;rfl
 | p::r,i,b,h=>by
  rw [zmn] at h;split at h
  . obtain ⟨d,hd,rfl⟩:=zy31.1 h
    rw [zy10,zfj,yfy hd]
  . cases h
theorem xab {l:List zav} {b:List UInt8} (h:join l=some b):b.length=tot l:=by
 unfold join at h;split at h
 . cases h
 . rw [yfy h,ypi zqv]
def yss (l:List zbf):Nat:=(l.map fun a=>a.data.length).sum
theorem ynx (a b:List zbf):yss (a++b)=yss a+yss b:=by simp [yss]
theorem xag {l:List zbf} {a:zbf} (h:a∈l):a.data.length<=yss l:=by
 obtain ⟨x,y,rfl⟩:=List.append_of_mem h;rw [ynx];simp [yss];omega
structure ztv (r r':Receiver) (d:Nat):Prop where
 len:r'.zbp.length=r.zbp.length
 cum:r'.cum=r.cum
 zas:r'.zas=r.zas
 config:r'.config=r.config
 pieces:r'.pieces.length<=r.pieces.length
 bytes:tot r'.pieces<=tot r.pieces
 log:r'.log.length+r'.pieces.length<=r.log.length+r.pieces.length
 mass:yss r'.log+tot r'.pieces<=yss r.log+tot r.pieces
 pre:r.log <+: r'.log
 lo:∀ L:Int,(∀ t∈r.zbp,L<t)->∀ t∈r'.zbp,L<t
 hi:∀ T:Int,(∀ t∈r.zbp,t+r.pieces.length<=T)->∀ t∈r'.zbp,t+r'.pieces.length<=T+d
theorem ztv.refl (r:Receiver):ztv r r 0:=⟨rfl,rfl,rfl,rfl,zy24 _,zy24 _,zy24 _,zy24 _,zy149 _,fun _ h=>h,fun T h t ht=>by have:=h t ht;omega⟩
theorem ztv.trans {a b c:Receiver} {d e:Nat} (h:ztv a b d) (k:ztv b c e):ztv a c (d+e):=by
 obtain ⟨a1,a2,a3,a4,a5,a6,a7,a8,a9,a10,a11⟩:=h;obtain ⟨b1,b2,b3,b4,b5,b6,b7,b8,b9,b10,b11⟩:=k;exact ⟨b1.trans a1,b2.trans a2,b3.trans a3,b4.trans a4,by omega,by omega,by omega,by omega,a9.trans b9,fun L h=>b10 L (a10 L h),fun T h t ht=>by have:=b11 (T+d) (a11 T h) t ht;omega⟩
theorem ztv.more {a b:Receiver} {d e:Nat} (h:ztv a b d) (k:d<=e):ztv a b e:={h with hi:=fun T ht t hm=>by have:=h.hi T ht t hm;omega}
theorem xbe {l:List zav} (f:zav->Bool):(l.filter fun p=>!f p).length+(l.filter f).length=l.length:=by
 induction l with
 | nil=>rfl
 | cons p l ih =>
  rw [zy49,zy49];cases f p<;>simp<;>omega
theorem yon {l:List zav} (f:zav->Bool):tot (l.filter fun p=>!f p)+tot (l.filter f)=tot l:=by
 induction l with
 | nil=>rfl
 | cons p l ih =>
  rw [zy49,zy49];cases f p<;>simp [zfj]<;>omega
theorem yej (r:Receiver) (s m:Int) (o:Bool):ztv r (zpo r s m o) 0:=by
 have h1:=xbe (l:=r.pieces) (zgs s m o);have h2:=yon (l:=r.pieces) (zgs s m o);refine ⟨rfl,rfl,rfl,rfl,?_,?_,?_,?_,zy149 _,fun _ h=>h,fun T h t ht=>?_⟩
 . show (r.pieces.filter fun p=>!zgs s m o p).length<=_;omega
 . show tot (r.pieces.filter fun p=>!zgs s m o p)<=_;omega
 . show _+(r.pieces.filter fun p=>!zgs s m o p).length<=_;show r.log.length+_<=_;omega
 . show _+tot (r.pieces.filter fun p=>!zgs s m o p)<=_;show yss r.log+_<=_;omega
 . have:=h t ht
   show t+((r.pieces.filter fun p=>!zgs s m o p).length:Int)<=_;omega
theorem yaw (r:Receiver) (s m:Int) (o:Bool):ztv r (dlv r s m o).1 0:=by
 obtain ⟨a1,a2,a3,a4,a5,a6,a7⟩:=zis r s m o;refine ⟨by rw [a1],a2,a3,a4,a5,a6,a7,?_,?_,fun L h=>by rw [a1];exact h,fun T h t ht=>by rw [a1] at ht;have:=h t ht;omega⟩
 . unfold dlv
   split
   . exact zy24 _
   . rename_i b hj
     have h1:=xab hj;have h2:=yon (l:=r.pieces) (zgs s m o);show yss (r.log++[_])+tot (r.pieces.filter fun p=>!zgs s m o p)<=_;rw [ynx];simp only [yss,zy29,zy114,zy134,List.sum_nil] at *
     omega
 . unfold dlv
   split
   . exact zy149 _
   . exact List.prefix_append _ _
theorem ykx {l:List Int} {k:Nat} {t:Int} (h:t∈l.set k (l[k]?.getD 0+1)):t∈l\/(t-1∈l):=by
 by_cases hk:k<l.length
 . rcases zy57 h with h | h
   . exact .inl h
   . right
     rw [h,zy3 hk];simp only [zy116];rw [show l[k]+1-1=l[k] by omega];exact zy52 hk
 . rw [zy115 (by omega)] at h
   exact .inl h
theorem zvb (r:Receiver) (k:Nat):ztv r (zyk r k) 1:=by
 refine ⟨by show (r.zbp.set k _).length=_;rw [zy26],rfl,rfl,rfl,zy24 _,zy24 _,zy24 _,zy24 _,zy149 _,fun L h t ht=>?_,fun T h t ht=>?_⟩
 . rcases ykx ht with h1 | h1
   . exact h t h1
   . have:=h _ h1;omega
 . show t+(r.pieces.length:Int)<=_
   rcases ykx ht with h1 | h1
   . have:=h t h1;omega
   . have:=h _ h1;omega
theorem ypx {r x:Receiver} (k:Nat) (h:ztv r x 0) (hl:x.pieces.length<r.pieces.length) (ht:x.zbp=r.zbp):ztv r (zyk x k) 0:=by
 have h1:=h.trans (zvb x k);refine {h1 with hi:=fun T hT t htm=>?_};show t+(x.pieces.length:Int)<=_;rcases ykx htm with h2 | h2
 . rw [ht] at h2;have:=hT t h2;omega
 . rw [ht] at h2;have:=hT _ h2;omega
theorem zsm:∀ (n:Nat) (r:Receiver) (k:Nat),r.pieces.length<n->ztv r (turns r k) 0
 | 0,r,k,h=>by omega
 | n+1,r,k,h=>by
  rw [zsn];have h1:=yaw r k (tag (r.zbp[k]?.getD 0)) true;split
  . rename_i hd
    have h2:=zng hd;have h3:=ypx k h1 h2 (zis r k (tag (r.zbp[k]?.getD 0)) true).1;exact h3.trans (zsm n _ k (by show (dlv r k (tag (r.zbp[k]?.getD 0)) true).1.pieces.length<n;omega))
  . exact h1
theorem ywk (r:Receiver) (k:Nat):ztv r (pass r k) 1:=by
 have h1:=yaw r k (tag (r.zbp[k]?.getD 0)) true;unfold pass;split
 . exact h1.trans (zvb _ _)
 . exact (h1.trans (yej _ _ _ _)).trans (zvb _ _)
theorem zwh:∀ (n:Nat) (r:Receiver) (k:Nat),ztv r (zzk n r k) n
 | 0,r,_=>ztv.refl r
 | n+1,r,k=>((ywk r k).trans (zwh n _ k)).more zz0
theorem yht (r:Receiver) (s:zdx) (h:∀ t∈r.zbp,-(2 ^ 60)<t/\t<2 ^ 60):ztv r (zhz r s) 32769:=by
 unfold zhz;split
 . exact (ztv.refl r).more zz0
 split
 . exact (yej _ _ _ _).more zz0
 rename_i c _;have hk:s.stream.toNat<r.zbp.length:=by omega
 have hb:=h _ (zy52 hk);have hg:r.zbp[s.stream.toNat]?.getD 0=r.zbp[s.stream.toNat]:=by simp [hk]
 obtain ⟨n1,n2,n3⟩:=ziy (a:=r.zbp[s.stream.toNat]) (t:=s.mid) zz0 zz0;have h1:=zwh (zde r.zbp[s.stream.toNat] s.mid+1-r.zbp[s.stream.toNat]).toNat r s.stream.toNat;refine (ztv.trans (b:=ydn r s.stream.toNat (zde (r.zbp[s.stream.toNat]?.getD 0) s.mid)) (d:=32769) (e:=0) ?_ (zsm _ _ _ (zy150 _)));unfold ydn;rw [hg];exact h1.more zz0
theorem yex:∀ (l:List zdx) (r:Receiver) (L T:Int),-(2 ^ 59)<=L->T+l.length*32769<2 ^ 59->(∀ t∈r.zbp,L<t)->(∀ t∈r.zbp,t+r.pieces.length<=T)->ztv r (l.foldl zhz r) (l.length*32769)
 | [],r,_,_,_,_,_,_=>(ztv.refl r).more zz0
 | s::l,r,L,T,h1,h2,h3,h4=>by
  rw [zy6] at h2;have g:=yht r s fun t ht=>by have:=h3 t ht;have:=h4 t ht;omega
  have g2:=yex l (zhz r s) L (T+32769) h1 zz0 (g.lo L h3) (g.hi T h4);rw [zy50,zy6];exact (g.trans g2).more zz0
def forward (r:Receiver) (c:Chunk):Receiver :=
 if ¬ c.kind=3\/zde r.cum c.tag<=r.cum then r else c.zbr.foldl zhz {r with cum:=(up r.zas (zde r.cum c.tag)).1,zas:=(up r.zas (zde r.cum c.tag)).2}
structure zlr (N:Nat) (r:Receiver):Prop where
 log:r.log.length+r.pieces.length<=N
 mass:yss r.log+tot r.pieces<=N
 many:r.zas.length<=N
 zjy:zjy r.zas
 zfr:∀ s∈r.zas,r.cum+1<s.lo
 his:∀ s∈r.zas,s.hi<=r.cum+32768
 cum1:-1<=r.cum
 cum2:r.cum<=100000+32768*N
 lo:∀ t∈r.zbp,-1<t
 hi:∀ t∈r.zbp,t+r.pieces.length<=32769*N
 streams:r.zbp.length<2 ^ 30
theorem zlr.more {N M:Nat} {r:Receiver} (h:zlr N r) (k:N<=M):zlr M r :=
 ⟨by have:=h.log;omega,by have:=h.mass;omega,by have:=h.many;omega,h.zjy,h.zfr,h.his,h.cum1,by have:=h.cum2;omega,h.lo,fun t ht=>by have:=h.hi t ht;omega,h.streams⟩
theorem zlr.fit {N:Nat} {r:Receiver} (h:zlr N r) (hN:N<=2000000):Fit r:=by
 obtain ⟨h1,h2,h3,h4,h5,h6,h7,h8,h9,h10,h11⟩:=h;exact ⟨by omega,by omega,by omega,by omega,by omega,fun a ha=>by have:=xag ha;omega⟩
theorem zlr.dfit {N:Nat} {r:Receiver} (h:zlr N r) (hN:N<=2000000) {c:Chunk} (hc:c.data.length<=2 ^ 20):xig r c:=by
 have hf:=h.fit hN;obtain ⟨h1,h2,h3,h4,h5,h6,h7,h8,h9,h10,h11⟩:=h;exact ⟨hf,h4,fun s hs=>by have:=h6 s hs;omega,by omega,by omega,fun t ht=>by have:=h9 t ht;have:=h10 t ht;omega,by omega,by omega,by omega⟩
theorem ydk:∀ {l:List Span} {n:Int} (_:Ser.zjy l),n<=(up l n).1/\(up l n).2.length<=l.length/\Ser.zjy (up l n).2/\(∀ s∈(up l n).2,s∈l)/\(∀ s∈(up l n).2,(up l n).1+1<s.lo)/\((up l n).1=n\/∃ s∈l,(up l n).1=s.hi)
 | [],n,_=>by simp [up,Ser.zjy]
 | s::r,n,h=>by
  rw [up];split
  . rename_i c
    have ih:=ydk (l:=r) (n:=if s.hi>n then s.hi else n) h.2.2.2.2;have h1:n<=(if s.hi>n then s.hi else n):=by split<;>omega
    have h2:(if s.hi>n then s.hi else n)=n\/(if s.hi>n then s.hi else n)=s.hi:=by split<;>simp
    generalize (if s.hi>n then s.hi else n)=n' at *
    obtain ⟨i1,i2,i3,i4,i5,i6⟩:=ih;refine ⟨by omega,by simp;omega,i3,fun t ht=>by simp [i4 t ht],i5,?_⟩;rcases i6 with i6 | ⟨t,ht,e⟩
    . rcases h2 with h2 | h2
      . exact .inl (i6.trans h2)
      . exact .inr ⟨s,by simp,i6.trans h2⟩
    . exact .inr ⟨t,by simp [ht],e⟩
  . rename_i c
    refine ⟨zy70 _,zy24 _,h,fun t ht=>ht,fun t ht=>?_,.inl rfl⟩;have h0:=h.1;rcases zy14.1 ht with rfl | ht
    . omega
    . have:=h.2.2.2.1 t ht;omega
theorem zlr.goes {N d e:Nat} {r r':Receiver} (h:zlr N r) (g:ztv r r' d) (hd:d<=32769*e):zlr (N+e) r':=by
 obtain ⟨h1,h2,h3,h4,h5,h6,h7,h8,h9,h10,h11⟩:=h;obtain ⟨a1,a2,a3,a4,a5,a6,a7,a8,a9,a10,a11⟩:=g;exact ⟨by omega,by omega,by rw [a3];omega,by rw [a3];exact h4,by rw [a2,a3];exact h5,fun s hs=>by rw [a3] at hs;have:=h6 s hs;omega,by omega,by omega,a10 _ h9,fun t ht=>by have:=a11 _ h10 t ht;omega,by omega⟩
theorem zlr.put {N:Nat} {r:Receiver} (h:zlr N r) (hN:N<=2 ^ 21) {c:Chunk} (ht:zuq r c (zde r.cum c.tag)):zlr (N+(c.data.length+1)) (put r c):=by
 obtain ⟨h1,h2,h3,h4,h5,h6,h7,h8,h9,h10,h11⟩:=h;obtain ⟨n1,n2,n3⟩:=ziy (a:=r.cum) (t:=c.tag) zz0 zz0;have ha:=ht.zfr;unfold Rcv.put;generalize zde r.cum c.tag=n at *
 have hadd:=ysw (n:=n) (M:=r.cum+32768) h4 zz0 zz0 (fun s hs=>by have:=h6 s hs;omega) zz0;have hal:=yal r.zas n;obtain ⟨u1,u2,u3,u4,u5,u6⟩:=ydk (n:=r.cum) (yam h4 (n:=n) zz0 zz0).1;refine ⟨?_,?_,?_,u3,u5,fun s hs=>?_,?_,?_,h9,?_,h11⟩
 . simp only [zy10,zy69];omega
 . dsimp only
   rw [zmz,zfj];have:tot []=0:=rfl;dsimp only;omega
 . dsimp only;omega
 . have:=hadd s (u4 s hs);dsimp only;omega
 . dsimp only;omega
 . dsimp only
   rcases u6 with u6 | ⟨s,hs,u6⟩
   . omega
   . have:=hadd s hs;omega
 . intro t htt
   have:=h10 t htt;simp only [zy10,zy69];omega
theorem yzb {N:Nat} {r:Receiver} (h:zlr N r) (hN:N<=2 ^ 21) (c:Chunk):zlr (N+(c.data.length+1)) (data r c):=by
 unfold data;split
 . rename_i ht
   have hp:=h.put hN ht;split
   . exact hp.goes (e:=0) (zsm _ _ _ (zy150 _)) (zy107 _)
   . exact hp.goes (e:=0) (yaw _ _ _ _) (zy107 _)
 . exact h.more zz0
theorem yjq {N:Nat} {r:Receiver} (h:zlr N r) (hN:N<=2 ^ 21) (c:Chunk) (hc:c.zbr.length<=2 ^ 21):zlr (N+(c.zbr.length+1)) (forward r c):=by
 unfold forward;split
 . exact h.more zz0
 rename_i ht;obtain ⟨h1,h2,h3,h4,h5,h6,h7,h8,h9,h10,h11⟩:=h;obtain ⟨n1,n2,n3⟩:=ziy (a:=r.cum) (t:=c.tag) zz0 zz0;have ha:r.cum<zde r.cum c.tag:=by
  apply Classical.byContradiction;intro hc;exact ht (.inr zz0)
 generalize zde r.cum c.tag=n at *
 obtain ⟨u1,u2,u3,u4,u5,u6⟩:=ydk (n:=n) h4;have hw:zlr (N+1) {r with cum:=(up r.zas n).1,zas:=(up r.zas n).2}:=by
  exact yy66
 have g:=yex c.zbr {r with cum:=(up r.zas n).1,zas:=(up r.zas n).2} (-1) (32769*N) zz0 zz0 h9 h10;exact (hw.goes (e:=c.zbr.length) g zz0).more zz0
end Rcv
namespace Rcv
open Srt Jn Ser
theorem zlr.skip {N:Nat} {r:Receiver} (h:zlr N r) (hN:N<=2 ^ 23) (s:zdx):zlr (N+1) (zhz r s) :=
 h.goes (e:=1) (yht r s fun t ht=>by have:=h.lo t ht;have:=h.hi t ht;omega) zz0
theorem zlr.sfit {N:Nat} {r:Receiver} (h:zlr N r) (hN:N<2 ^ 22):xiy r:=by
 obtain ⟨h1,h2,h3,h4,h5,h6,h7,h8,h9,h10,h11⟩:=h;exact ⟨by omega,by omega,by omega,fun t ht=>by have:=h9 t ht;omega,fun t ht=>by have:=h10 t ht;omega⟩
def ypu (r:Receiver) (n:Int):Receiver:={r with cum:=(up r.zas n).1,zas:=(up r.zas n).2}
theorem zlr.up {N:Nat} {r:Receiver} (h:zlr N r) (_:N<=2 ^ 22) {n:Int} (n1:r.cum<n) (n2:n<=r.cum+32768):zlr (N+1) (ypu r n):=by
 obtain ⟨h1,h2,h3,h4,h5,h6,h7,h8,h9,h10,h11⟩:=h;obtain ⟨u1,u2,u3,u4,u5,u6⟩:=ydk (n:=n) h4;unfold ypu;exact yy66
theorem yhy (r:Receiver) (c:Chunk) {N:Nat} (h:zlr N r) (hN:N<=2000000) (hc:c.zbr.length<=2 ^ 20) :
 zan Tryz.prog 153 [r.hv,c.hv] zad (xhi (forward r c) 0 1 2 3) (lk .free (yyu (forward r c) 0 1 2 3 [])):=by
 have hfit:=h.fit hN;have h6:=h.his;have h7:=h.cum1;have h8:=h.cum2;obtain ⟨n1,n2,n3⟩:=ziy (a:=r.cum) (t:=c.tag) zz0 zz0;generalize hD:forward r c=D;refine zaq mixed Tryz.func153 zz4 [] (fun _=>.inl rfl) ?_;(conv=>whnf)
 (refine zat [(0,910),(1,911),(2,912),(3,913)]  ?_;(conv=>whnf);refine dO (zdu r hfit) ?_)
 (refine cL ?_;refine dL (zko r.cum c.tag) ?_)
 by_cases c1:c.kind=3
 case neg =>
  obtain rfl:r=D:=by rw [<- hD,forward,zy1 (.inl c1)]
  refine zac zz39 ?_;conv=>whnf
  exact yy116
 refine zab zz150 (zw ?_);by_cases c2:zde r.cum c.tag<=r.cum
 . obtain rfl:r=D:=by rw [<- hD,forward,zy1 (.inr c2)]
   refine zac zz29 ?_;conv=>whnf
   exact yy116
 refine zab zz29 (zw ?_)
 try refine sG ?_
 have hw:=h.up zz0 (n:=zde r.cum c.tag) zz0 zz0;have e:c.zbr.foldl zhz (ypu r (zde r.cum c.tag))=D:=by rw [<- hD,forward,zy0 (by simp [c1];omega)];rfl
 (refine zat [(0,37)]  ?_;(conv=>whnf);refine dO (yyg r.zas (zde r.cum c.tag) (fun s hs=>by have:=h6 s hs;omega) zz137 zz0 zz0) ?_)
 refine ⟨{x:Receiver×List zdx×List zdx // c.zbr=x.2.1++x.2.2/\zlr (N+1+x.2.1.length) x.1/\x.2.2.foldl zhz x.1=D},fun | ⟨(x,a,b),_⟩=>hs 61 [(4,.ptr 4 0),(5,.ptr 12 0),(47,.p (.sl 3 (c.zbr.map zdx.row))),(48,i64 c.zbr.length),(49,i64 a.length)] ((4,.live (.cells 37 yit))::(12,.live (.cells 225 (ych x (.own 900) (.own 901) (.own 902) (.own 903))))::yyu x 900 901 902 903 []),fun x=>x.1.2.2.length,⟨(ypu r (zde r.cum c.tag),[],c.zbr),rfl,hw,e⟩,?_,?_⟩
 . exact (zbe [(4,some 4),(12,some 12),(900,some 37),(901,some 911),(902,some 912),(903,some 913)])
 rintro ⟨⟨x,a,b⟩,h1,h2,h3⟩;dsimp only at h1 h2 h3;(conv=>whnf);cases b with
 | cons s b =>
  have hz:=zay h1;refine sT ?_;refine zaj h1 rfl (zw ?_)
  (refine zaf [] [(1000,12),(1001,900),(1002,901),(1003,902),(1004,903)] [(0,910),(1,911),(2,912),(3,913)] ?_;(conv=>whnf);refine dG (zxf x s (h2.sfit zz0)) ?_)
  refine sF ?_;exact ⟨⟨(zhz x s,a++[s],b),zae h1,by have:=h2.skip zz0 s;simpa [zy97] using this,h3⟩,(zbe [(4,some 4),(12,some 12),(900,some 910),(901,some 911),(902,some 912),(903,some 913)]),by simp⟩
 | nil =>
  have hz:=zbk h1;have h3:x=D:=h3;subst h3;refine sN ?_
  (exact zci [(0,some 900),(1,some 901),(2,some 902),(3,some 903)])
theorem zzu (l:List zav) (c:Chunk) (hb:l.length<2 ^ 36):zan Tryz.prog 177 [pieces l,c.hv] zad (.tup [pieces (l.filter (zgs c.stream c.mid c.ordered)),pieces (l.filter fun p=>!zgs c.stream c.mid c.ordered p)]) zad:=by
 refine zal mixed Tryz.func177 zz4 ?_;(conv=>whnf);refine ⟨{x:List zav×List zav // l=x.1++x.2},fun | ⟨(a,b),_⟩=>hs 49 [(3,.ptr 3 0),(6,.own 900),(7,.own 901),(10,pieces l),(11,i64 l.length),(12,i64 a.length)] [(3,.live (.cells 61 c.cells)),(900,xcw (a.filter (zgs c.stream c.mid c.ordered))),(901,xcw (a.filter fun p=>!zgs c.stream c.mid c.ordered p))],fun x=>x.1.2.length,⟨([],l),rfl⟩,?_,?_⟩
 . exact (zbe [(3,some 3),(900,none),(901,none)])
 rintro ⟨⟨a,b⟩,h⟩;dsimp only at h;have hfa:=zy27 (zgs c.stream c.mid c.ordered) a;have hfb:=zy27 (fun p=>!zgs c.stream c.mid c.ordered p) a;(conv=>whnf);cases b with
 | cons p b =>
  have hz:=zay h;refine sT ?_;refine zaj h rfl (zw ?_);have e1:(a++[p]).filter (zgs c.stream c.mid c.ordered)=a.filter (zgs c.stream c.mid c.ordered)++if zgs c.stream c.mid c.ordered p then [p] else []:=by
   rw [zy45,zy49];rfl
  have e2:(a++[p]).filter (fun p=>!zgs c.stream c.mid c.ordered p)=a.filter (fun p=>!zgs c.stream c.mid c.ordered p)++if zgs c.stream c.mid c.ordered p then [] else [p]:=by
   rw [zy45,zy49];cases zgs c.stream c.mid c.ordered p<;>rfl
  by_cases c1:p.chunk.stream=c.stream
  case neg =>
   have hm:zgs c.stream c.mid c.ordered p=false:=by simp [zgs,c1]
   rw [hm] at e1 e2;refine zab zz39 (zw ?_);exact yy32
  refine zac zz39 ?_;conv=>whnf
  by_cases c2:p.chunk.mid=c.mid
  case neg =>
   have hm:zgs c.stream c.mid c.ordered p=false:=by simp [zgs,c2]
   rw [hm] at e1 e2;refine zab zz29 (zw ?_);exact yy32
  refine zac zz29 ?_;conv=>whnf
  by_cases c3:p.chunk.ordered=c.ordered
  case neg =>
   have hm:zgs c.stream c.mid c.ordered p=false:=by simp [zgs,c3]
   rw [hm] at e1 e2;refine zab zz89 (zw ?_);exact yy32
  have hm:zgs c.stream c.mid c.ordered p=true:=by simp [zgs,c1,c2,c3]
  rw [hm] at e1 e2;refine zac zz89 (zw ?_)
  try refine sG ?_
  refine zaa (c:=(((a.filter (zgs c.stream c.mid c.ordered)).map zav.row).length+1)*136<=140737488355328) zz3 (zw ?_)
  try refine sG ?_
  refine sF ?_;exact ⟨⟨(a++[p],b),zae h⟩,(zax [(3,some 3),(900,some 41),(901,some 901)] (by repeat' (first | exact z0 | refine z1 ?_ | refine ⟨?_,?_⟩ | ((exact zbc (f:=zav.row) e1 rfl)) | ((exact zar (by rw [e2];simp))) | exact z2))),by simp⟩
 | nil =>
  have hz:=zbk h;rw [zy5] at h;refine sN ?_;rw [h]
  try rfl
end Rcv
namespace Rcv
open Srt Jn Ser
abbrev yhh (l:List Int):HV:=.p (.sl 1 (l.map fun n=>[pi n]))
abbrev zky (l:List zbf):HV:=.p (.sl 4 (l.map zbf.row))
def ykv (r:Receiver) (s m:Int) (o any:Bool):Receiver×Bool :=
 (if (dlv r s m o).2 then (dlv r s m o).1 else if any then zpo r s m o else r,(dlv r s m o).2)
theorem zzm (r:Receiver) (s m:Int) (o:Bool):ykv r s m o false=dlv r s m o:=by
 unfold ykv dlv;split<;>rfl
theorem zlk (r:Receiver) (c:Chunk) (any:Bool) (h2:r.pieces.length<2 ^ 22) (h3:tot r.pieces<2 ^ 22) (h4:r.log.length<2 ^ 38) :
 zan Tryz.prog 176 [r.hv,c.hv,zbj any] zad (.tup [(ykv r c.stream c.mid c.ordered any).1.hv,zbj (ykv r c.stream c.mid c.ordered any).2]) zad:=by
 refine zal mixed Tryz.func176 zz4 ?_;have hf:=zy27 (zgs c.stream c.mid c.ordered) r.pieces;have ht:=zkw (zgs c.stream c.mid c.ordered) r.pieces;(conv=>whnf)
 (refine cP ?_;refine dL (zzu r.pieces c zz0) ?_)
 have ps:=yrv (r.pieces.filter (zgs c.stream c.mid c.ordered)) zz0 zz0;cases hj:join (r.pieces.filter (zgs c.stream c.mid c.ordered)) with
 | none =>
  rw [hj] at ps;have hd:dlv r c.stream c.mid c.ordered=(r,false):=by rw [dlv,hj]
  (refine zat [(0,910)]  ?_;(conv=>whnf);refine dO ps ?_)
  cases any with
  | false =>
   conv=>whnf
   try refine sG ?_
   rw [ykv,hd];rfl
  | true =>
   conv=>whnf
   try refine sG ?_
   rw [ykv,hd];rfl
 | some b =>
  rw [hj] at ps;have hd:dlv r c.stream c.mid c.ordered=({zpo r c.stream c.mid c.ordered with log:=r.log++[⟨c.stream,c.mid,c.ordered,b⟩]},true):=by rw [dlv,hj]
  (refine zat [(0,910)]  ?_;(conv=>whnf);refine dO ps ?_)
  refine zaa (c:=(([]:List (List PV)).length+(r.log.map zbf.row).length)*48<=140737488355328) zz3 (zw ?_)
  try refine sG ?_
  refine zaa (c:=(([]++r.log.map zbf.row).length+1)*48<=140737488355328) zz3 (zw ?_);refine sD ?_;rw [ykv,hd];have hl:r.log.map zbf.row++[zbf.row ⟨c.stream,c.mid,c.ordered,b⟩]=(r.log++[(⟨c.stream,c.mid,c.ordered,b⟩:zbf)]).map zbf.row:=by simp
  exact congrArg (fun l=>HV.tup [.agg (ych r (zas r.zas) (pieces (r.pieces.filter fun p=>!zgs c.stream c.mid c.ordered p)) (yhh r.zbp) (.p (.sl 4 l))),zbj true]) hl
theorem xci {r:Receiver} {s m:Int} {o:Bool} (h:(dlv r s m o).2=false):(dlv r s m o).1=r:=by
 unfold dlv at h ⊢;split
 . rfl
 . rename_i b hj;rw [hj] at h;cases h
theorem yxw (r:Receiver) (s m:Int) (h2:r.pieces.length<2 ^ 22) (h3:tot r.pieces<2 ^ 22) (h4:r.log.length<2 ^ 38) :
 zan Tryz.prog 176 [r.hv,(Chunk.mk 0 0 s m 0 false true [] [] 0 []).hv,zbj false] zad (.tup [(dlv r s m true).1.hv,zbj (dlv r s m true).2]) zad:=by
 have h:=zlk r (Chunk.mk 0 0 s m 0 false true [] [] 0 []) false h2 h3 h4
 rwa [zzm] at h
theorem ylp (r:Receiver) (k:Nat) (hf:yst r k) (ht9:r.zbp.length<2 ^ 30):zan Tryz.prog 175 [r.hv,i64 k] zad (turns r k).hv zad:=by
 generalize hT:turns r k=T;refine zal mixed Tryz.func175 zz4 ?_;(conv=>whnf);refine ⟨{x:Bool×Receiver // yst x.2 k/\turns x.2 k=T/\x.2.zbp.length<2 ^ 30},fun
  | ⟨(false,x),_⟩=>hs 36 [(1,i64 k),(2,.ptr 2 0),(4,.ptr 4 0)] [(2,.live (.cells 37 (ych x (zas x.zas) (pieces x.pieces) (yhh x.zbp) (zky x.log)))),(4,.live (.cells 37 yit))]
  | ⟨(true,x),_⟩=>hs 36 [(1,i64 k),(2,.ptr 2 0),(4,.ptr 4 0)] [(2,.live (.cells 37 (ych x (zas x.zas) (pieces x.pieces) (.own 900) (zky x.log)))),(4,.live (.cells 37 yit)),(900,zxu x.zbp)],fun x=>x.1.2.pieces.length,⟨(false,r),hf,hT,ht9⟩,?_,?_⟩
 . exact (zbe [(2,some 2),(4,some 4)])
 rintro ⟨⟨b,x⟩,⟨h1,h2,h3,h4,h5,h6⟩,he,h9⟩;dsimp only at h1 h2 h3 h4 h5 h6 he h9;have hg:x.zbp[k]?.getD 0=x.zbp[k]:=by simp [h4]
 have hstep:=zsn x k;rw [he,hg] at hstep;rw [hg] at h5 h6;obtain ⟨k1,k2,k3,k4,k5,k6,k7⟩:=zis x k (tag x.zbp[k]) true;have hless:(dlv x k (tag x.zbp[k]) true).2=true->(dlv x k (tag x.zbp[k]) true).1.pieces.length<x.pieces.length:=fun h=>zng h
 have hno:(dlv x k (tag x.zbp[k]) true).2=false->(dlv x k (tag x.zbp[k]) true).1=x:=fun h=>xci h
 have ps:=yxw x k (tag x.zbp[k]) zz0 zz0 zz0;generalize hD:dlv x k (tag x.zbp[k]) true=D at *
 obtain ⟨y,ok⟩:=D;dsimp only at k1 k2 k3 k4 k5 k6 k7 hless hstep hno ps;have h4':k<y.zbp.length:=by rw [k1];exact h4
 have hyk:y.zbp[k]=x.zbp[k]:=by simp only [k1]
 cases b with
 | false =>
  exact yy15
 | true =>
  exact yy15
end Rcv
namespace Rcv
open Srt Jn Ser
theorem yim (l:List Span) (n:Int) (hr:zjy l) (hl:∀ s∈l,s.hi<=1099511627776) (hb:l.length<2 ^ 39) (h1:-1099511627776<=n) (h2:n<=1099511627776) :
 zan Tryz.prog 173 [zas l,i64 n] zad (.tup [i64 (up l n).1,zas (up l n).2]) zad:=by
 refine zcn Tryz.func173 (xbq l n hr hl hb h1 h2) ?_;(conv=>whnf)
theorem yrq (l:List Span) (n:Int) (hn:has l n=false) (hl:zjy l) (hb:l.length<2 ^ 39) (h1:-1099511627776<=n) (h2:n<=1099511627776) :
 zan Tryz.prog 174 [zas l,i64 n] zad (zas (add l n)) zad:=by
 refine zcn Tryz.func174 (yxv l n hn hl hb h1 h2) ?_;(conv=>whnf)
theorem zia (r:Receiver) (k:Nat) (z:Int) (hz:z=k) {rows:List (List PV)} (zij:rows=r.pieces.map zav.row) (hf:yst r k) (ht9:r.zbp.length<2 ^ 30) :
 zan Tryz.prog 175 [.agg (ych r (zas r.zas) (.p (.sl 12 rows)) (yhh r.zbp) (zky r.log)),i64 z] zad (turns r k).hv zad:=by
 subst hz zij;exact ylp r k hf ht9
theorem zqt (r:Receiver) (c:Chunk) {rows:List (List PV)} (zij:rows=r.pieces.map zav.row) (h2:r.pieces.length<2 ^ 22) (h3:tot r.pieces<2 ^ 22) (h4:r.log.length<2 ^ 38) :
 zan Tryz.prog 176 [.agg (ych r (zas r.zas) (.p (.sl 12 rows)) (yhh r.zbp) (zky r.log)),c.hv,zbj false] zad (.tup [(dlv r c.stream c.mid c.ordered).1.hv,zbj (dlv r c.stream c.mid c.ordered).2]) zad:=by
 subst zij;have h:=zlk r c false h2 h3 h4
 rwa [zzm] at h
theorem yrs (r:Receiver) (c:Chunk) {N:Nat} (h:zlr N r) (hN:N<=2000000) (hc:c.data.length<=2 ^ 20):zan Tryz.prog 146 [r.hv,c.hv] zad (data r c).hv zad:=by
 obtain ⟨h1,h2,h3,h4,h5,h6,h7,h8,h9⟩:=h.dfit hN hc;obtain ⟨n1,n2,n3⟩:=ziy (a:=r.cum) (t:=c.tag) zz0 zz0;generalize hD:data r c=D;refine zal mixed Tryz.func146 zz4 ?_;(conv=>whnf)
 (refine cL ?_;refine dL (zkq r.cum c.tag zz0 zz0) ?_)
 have no:¬ zuq r c (zde r.cum c.tag)->D=r:=fun h=>by rw [<- hD,data,zy0 h]
 by_cases c1:c.kind=1
 case neg =>
  have e:=no fun h=>c1 h.1
  subst e;refine zac zz39 ?_;conv=>whnf
  repeat refine sG ?_
  try rfl
 refine zab zz150 (zw ?_);by_cases c2:c.stream<0
 . have e:=no fun h=>by have:=h.2;omega
   subst e;refine zac zz29 ?_;conv=>whnf
   repeat refine sG ?_
   try rfl
 refine zab zz29 (zw ?_);by_cases c3:c.stream>=r.zbp.length
 . have e:=no fun h=>by have:=h.3;omega
   subst e;refine zac zz89 (zw ?_)
   repeat refine sG ?_
   try rfl
 refine zab zz89 (zw ?_);by_cases c4:zde r.cum c.tag<=r.cum
 . have e:=no fun h=>by have:=h.4;omega
   subst e;refine zac zz122 (zw ?_)
   repeat refine sG ?_
   try rfl
 refine zab zz122 (zw ?_)
 (refine cL ?_;refine dL (ylc r.zas (zde r.cum c.tag) (by have:=h1.zas;omega)) ?_)
 cases c5:has r.zas (zde r.cum c.tag) with
 | true =>
  have e:=no fun h=>by have:=h.5;rw [c5] at this;cases this
  subst e;(conv=>whnf)
  repeat refine sG ?_
  try rfl
 | false =>
 conv=>whnf
 repeat refine sG ?_
 refine sF ?_;have g1:=h1.zas;have g2:=h1.log;have rest:zuq r c (zde r.cum c.tag)->D=if c.ordered then turns (put r c) c.stream.toNat else (dlv (put r c) c.stream c.mid false).1:=fun h=>by rw [<- hD,data,zy1 h]
 have yzo:tot (put r c).pieces=tot r.pieces+c.data.length:=by show tot (r.pieces++[_])=_;rw [zmz,zfj];rfl
 have hpl:(put r c).pieces.length=r.pieces.length+1:=by show (r.pieces++[_]).length=_;simp
 have hadd:=ysw (n:=zde r.cum c.tag) (M:=1099511627776) h2 zz0 zz0 (fun s hs=>by have:=h3 s hs;omega) zz0;have hal:=yal r.zas (zde r.cum c.tag);have har:=(yam h2 (n:=zde r.cum c.tag) zz0 zz0).1;by_cases c6:zde r.cum c.tag=r.cum+1
 case' pos =>
  have ok:zuq r c (zde r.cum c.tag):=⟨c1,by omega,by omega,by omega,c5,.inl c6⟩
  refine zab zz101 (zw ?_)
  ((refine zaw ?_ ?_;(· kernel_rfl);conv=>whnf);try refine sG ?_)
 case' neg =>
  refine zac zz111 (zw ?_)
  (refine cL ?_;refine dL (zsi r zz0 zz0) ?_)
  refine sF ?_;by_cases c7:(tot r.pieces:Int)+c.data.length>400
  case pos =>
   have e:=no fun h=>by have:=h.6;omega
   subst e;refine sD ?_;refine zac zz153 (zw ?_)
   repeat refine sG ?_
   try rfl
  have ok:zuq r c (zde r.cum c.tag):=⟨c1,by omega,by omega,by omega,c5,.inr zz0⟩
  refine sD ?_;refine zab zz153 (zw ?_)
  repeat refine sG ?_
 all_goals (
  have rest:=rest ok;refine zaa (c:=(([]:List (List PV)).length+(r.pieces.map zav.row).length)*136<=140737488355328) zz3 (zw ?_)
  try refine sG ?_
  refine zaa (c:=(([]++r.pieces.map zav.row).length+1)*136<=140737488355328) zz3 (zw ?_);refine sD ?_
  (refine cP ?_;refine dL (yrq r.zas (zde r.cum c.tag) c5 h2 zz0 zz0 zz0) ?_)
  (refine cP ?_;refine dL (yim (add r.zas (zde r.cum c.tag)) r.cum har hadd zz0 zz0 zz0) ?_)
  refine sD ?_;obtain ⟨k,hk⟩:∃ k:Nat,c.stream=k:=⟨c.stream.toNat,by omega⟩
  have hkl:k<r.zbp.length:=by omega
  have htk:(put r c).zbp[k]?.getD 0=r.zbp[k]:=by show r.zbp[k]?.getD 0=_;rw [zy3 hkl];rfl
  have htb:=h6 _ (zy52 hkl);refine zah (fun ho=>?_) (fun ho=>?_)
  . rw [zy1 ho,show c.stream.toNat=k by omega] at rest
    subst rest;(conv=>whnf)
    ((refine zdd ?_;(conv=>whnf);refine ⟨_,zia (put r c) k _ hk (by simp [put];rfl) ⟨by omega,by omega,by show r.log.length+_<_;omega,hkl,by rw [htk];omega,by rw [htk];omega⟩ h.streams,rfl,?_⟩;conv=>whnf);try refine sG ?_)
    try rfl
  . rw [zy0 (by rw [ho];decide)] at rest
    subst rest;(conv=>whnf)
    (refine cP ?_;refine dL (zqt (put r c) c (by simp [put];rfl) zz0 zz0 (by show r.log.length<_;omega)) ?_)
    rw [ho]
    try rfl)
end Rcv
namespace Rcv
open Srt Jn Ser
theorem ygy {r:Receiver} {k:Nat} {t:Int} (h:r.zbp[k]?.getD 0=t):pass r k=zyk (ykv r k (tag t) true true).1 k:=by
 subst h;unfold pass ykv;cases hd:(dlv r k (tag (r.zbp[k]?.getD 0)) true).2 with
 | true=>rfl
 | false=>rw [xci hd];rfl
theorem yhe (r:Receiver) (s m:Int) (o any:Bool):(ykv r s m o any).1.zbp=r.zbp:=by
 unfold ykv;split
 . exact (zis r s m o).1
 . split<;>rfl
theorem zzy (r:Receiver) (s m z:Int) (hz:z=m) (h2:r.pieces.length<2 ^ 22) (h3:tot r.pieces<2 ^ 22) (h4:r.log.length<2 ^ 38) :
 zan Tryz.prog 176 [r.hv,(Chunk.mk 0 0 s z 0 false true [] [] 0 []).hv,zbj true] zad (.tup [(ykv r s m true true).1.hv,zbj (ykv r s m true true).2]) zad:=by
 subst hz;exact zlk r (Chunk.mk 0 0 s z 0 false true [] [] 0 []) true h2 h3 h4
def xhy (k:Nat) (n:Int) (T:Receiver) (y:Bool×Receiver×Int):Prop:=yst y.2.1 k/\y.2.1.zbp[k]?.getD 0=y.2.2/\y.2.2<=2 ^ 58/\turns (ydn y.2.1 k n) k=T/\y.2.1.zbp.length<2 ^ 30
def xji (c:Chunk) (s:zdx) (L:Nat) (n:Int):Bool×Receiver×Int->HS
 | (false,y,m)=>hs 118 [(2,.ptr 2 0),(4,.ptr 4 0),(7,.ptr 7 0),(10,i64 n),(11,i64 m),(37,.p (.sl 3 (c.zbr.map zdx.row))),(38,i64 c.zbr.length),(39,i64 L)] [(2,.live (.cells 37 (ych y (zas y.zas) (pieces y.pieces) (yhh y.zbp) (zky y.log)))),(4,.live (.cells 37 yit)),(7,.live (.cells 180 [i64 s.stream,i64 s.mid,zbj s.ordered]))]
 | (true,y,m)=>hs 118 [(2,.ptr 2 0),(4,.ptr 4 0),(7,.ptr 7 0),(10,i64 n),(11,i64 m),(37,.p (.sl 3 (c.zbr.map zdx.row))),(38,i64 c.zbr.length),(39,i64 L)] [(2,.live (.cells 37 (ych y (zas y.zas) (pieces y.pieces) (.own 900) (zky y.log)))),(4,.live (.cells 37 yit)),(7,.live (.cells 180 [i64 s.stream,i64 s.mid,zbj s.ordered])),(900,zxu y.zbp)]
def xin (c:Chunk) (L:Nat) (x:Receiver):HS:=hs 118 [(2,.ptr 2 0),(4,.ptr 4 0),(37,.p (.sl 3 (c.zbr.map zdx.row))),(38,i64 c.zbr.length),(39,i64 L)] [(2,.live (.cells 37 (ych x (zas x.zas) (pieces x.pieces) (yhh x.zbp) (zky x.log)))),(4,.live (.cells 37 yit))]
theorem ydc (r:Receiver) (c:Chunk) {N:Nat} (h:zlr N r) (hN:N<=2000000) (hc:c.zbr.length<=2 ^ 20):zan Tryz.prog 147 [r.hv,c.hv] zad (forward r c).hv zad:=by
 have hfit:=h.fit hN;have h4:=h.zjy;have h6:=h.his;have h7:=h.cum1;have h8:=h.cum2;obtain ⟨n1,n2,n3⟩:=ziy (a:=r.cum) (t:=c.tag) zz0 zz0;generalize hD:forward r c=D;refine zal mixed Tryz.func147 zz4 ?_;(conv=>whnf)
 (refine cL ?_;refine dL (zkq r.cum c.tag zz0 zz0) ?_)
 by_cases c1:c.kind=3
 case neg =>
  obtain rfl:r=D:=by rw [<- hD,forward,zy1 (.inl c1)]
  refine zac zz39 ?_;conv=>whnf
  repeat refine sG ?_
  try rfl
 refine zab zz150 (zw ?_);by_cases c2:zde r.cum c.tag<=r.cum
 . obtain rfl:r=D:=by rw [<- hD,forward,zy1 (.inr c2)]
   refine zac zz29 ?_;conv=>whnf
   repeat refine sG ?_
   try rfl
 refine zab zz29 (zw ?_)
 repeat refine sG ?_
 have hw:=h.up zz0 (n:=zde r.cum c.tag) zz0 zz0;have e:c.zbr.foldl zhz (ypu r (zde r.cum c.tag))=D:=by rw [<- hD,forward,zy0 (by simp [c1];omega)];rfl
 (refine cP ?_;refine dL (yim r.zas (zde r.cum c.tag) h4 (fun s hs=>by have:=h6 s hs;omega) zz137 zz0 zz0) ?_)
 refine ⟨{x:Receiver×List zdx×List zdx // c.zbr=x.2.1++x.2.2/\zlr (N+1+x.2.1.length) x.1/\x.2.2.foldl zhz x.1=D},fun x=>xin c x.1.2.1.length x.1.1,fun x=>x.1.2.2.length,⟨(ypu r (zde r.cum c.tag),[],c.zbr),rfl,hw,e⟩,?_,?_⟩
 . exact (zbe [(2,some 2),(4,some 4)])
 rintro ⟨⟨x,a,b⟩,h1,h2,h3⟩;dsimp only at h1 h2 h3;refine zbx fun Q0 hQ0=>?_
 (conv=>whnf);cases b with
 | nil =>
  have hz:=zbk h1;have h3:x=D:=h3;subst h3;refine sN ?_;refine hQ0 _ _ (zw ?_)
  try rfl
 | cons s b =>
  have hz:=zay h1;have hsf:=h2.sfit zz0;obtain ⟨f1,f2,f3,f4,f5⟩:=hsf;have next:zlr (N+1+(a++[s]).length) (zhz x s):=by have:=h2.skip zz0 s;simpa [zy97] using this
  have h2h:=h2.hi;have h2l:=h2.lo;have h2s:=h2.streams;have h3:b.foldl zhz (zhz x s)=D:=h3;generalize hT:zhz x s=T at next h3;refine sT ?_;refine zaj h1 rfl (zw ?_);by_cases c3:s.stream<0
  . rw [zhz,zy1 (.inl c3)] at hT
    subst hT;refine zac zz89 (zw ?_);exact yy128
  refine zab zz89 (zw ?_);by_cases c4:(x.zbp.length:Int)<=s.stream
  . rw [zhz,zy1 (.inr c4)] at hT
    subst hT;refine zac zz122 (zw ?_);exact yy128
  refine zab zz122 (zw ?_)
  repeat refine sG ?_
  refine zah (fun ho=>?_) (fun ho=>?_)
  . have ho:s.ordered=false:=by simpa using ho
    rw [zhz,zy0 (by omega),zy1 ho] at hT;(conv=>whnf)
    repeat refine sG ?_
    (refine cP ?_;refine dL (zzu x.pieces (Chunk.mk 0 0 s.stream s.mid 0 false false [] [] 0 []) zz0) ?_)
    subst hT;refine sF ?_;refine hQ0 _ _ (zw ?_);exact ⟨⟨(zpo x s.stream s.mid false,a++[s],b),zae h1,next,h3⟩,(zbe [(2,some 2),(4,some 4)]),by simp⟩
  have ho:s.ordered=true:=by simpa using ho
  rw [zhz,zy0 (by omega),zy0 (by rw [ho];decide)] at hT;obtain ⟨k,hk⟩:∃ k:Nat,s.stream=k:=⟨s.stream.toNat,by omega⟩
  have hkl:k<x.zbp.length:=by omega
  have hg:x.zbp[k]?.getD 0=x.zbp[k]:=by simp [hkl]
  have b1:=h2l _ (zy52 hkl);have b2:=h2h _ (zy52 hkl);have b3:=f5 _ (zy52 hkl);rw [show s.stream.toNat=k by omega,hg] at hT;(conv=>whnf)
  repeat refine sG ?_
  refine zca k zz0 hkl (zw ?_)
  (refine cL ?_;refine dL (zkq x.zbp[k] s.mid zz0 zz0) ?_)
  refine sD ?_;obtain ⟨m1,m2,m3⟩:=ziy (a:=x.zbp[k]) (t:=s.mid) zz0 zz0;generalize zde x.zbp[k] s.mid=n at hT m1 m2 m3 ⊢;refine zca k zz0 hkl (zw ?_);have start:xhy k n T (false,x,x.zbp[k]):=⟨⟨f1,f2,f3,hkl,by show _<x.zbp[k]?.getD 0;rw [hg];omega,by show x.zbp[k]?.getD 0+(x.pieces.length:Int)<_;rw [hg];omega⟩,hg,by dsimp only;omega,hT,h2s⟩
  refine ⟨{y:Bool×Receiver×Int // xhy k n T y},fun y=>xji c s a.length n y.1,fun y=>(n+1-y.1.2.2).toNat,⟨(false,x,x.zbp[k]),start⟩,?_,?_⟩
  . exact (zbe [(2,some 2),(4,some 4),(7,some 7)])
  rintro ⟨⟨bb,y,m⟩,⟨g1,g2,g3,g4,g5,g6⟩,gm,g7,he,g9⟩;dsimp only at g1 g2 g3 g4 g5 g6 gm g7 he g9;rw [gm] at g5 g6;refine zbx fun Q hQ=>?_
  cases bb with
  | false =>
   exact yy10
  | true =>
   exact yy10
end Rcv
namespace Rcv
open Srt Jn Ser
theorem ylo (r:Receiver) (h1:r.zas.length<2 ^ 40) (h2:r.pieces.length<2 ^ 40) (h3:tot r.pieces<2 ^ 60) (hc:-(2 ^ 60)<=r.cum) (hc2:r.cum<=2 ^ 60) (hsp:∀ s∈r.zas,-(2 ^ 61)<=s.lo/\s.lo<=2 ^ 61/\-(2 ^ 61)<=s.hi/\s.hi<=2 ^ 61) :
 zan Tryz.prog 148 [r.hv] zad (zlo r).hv zad:=by
 by_cases c0:400-(tot r.pieces:Int)>0
 . have e:zlo r=⟨2,tag r.cum,0,0,0,false,false,[],(r.zas.take 6).map (shift r.cum),400-(tot r.pieces:Int),[]⟩:=by rw [zlo,zy0 (by omega)]
   rw [e];refine zal mixed Tryz.func148 zz4 ?_;(conv=>whnf)
   (refine cL ?_;refine dL (zcu r.cum) ?_)
   (refine cL ?_;refine dL (zsi r zz0 zz0) ?_)
   refine sF ?_;refine zac (by simpa using c0) (zw ?_)
   repeat refine sG ?_
   refine ⟨{x:List Span×List Span // r.zas=x.1++x.2},fun | ⟨(A,B),_⟩=>hs 46 [(1,.ptr 1 0),(2,.ptr 2 0),(3,.ptr 3 0),(19,zas r.zas),(20,i64 r.zas.length),(21,i64 A.length)] [(1,.live (.cells 37 (ych r (zas r.zas) (pieces r.pieces) (yhh r.zbp) (zky r.log)))),(2,.live (.cells 61 [i64 0,i64 0,i64 0,i64 0,i64 0,zbj false,zbj false,zeg,zeg,i64 0,zeg])),(3,.live (.cells 61 [i64 2,i64 (tag r.cum),i64 0,i64 0,i64 0,zbj false,zbj false,zeg,.own 900,i64 (400-(tot r.pieces:Int)),zeg])),(900,xfd ((A.take 6).map (shift r.cum)))],fun x=>x.1.2.length,⟨([],r.zas),rfl⟩,?_,?_⟩
   . exact (zbe [(1,some 1),(2,some 2),(3,some 3),(900,none)])
   exact yy19
 . have e:zlo r=⟨2,tag r.cum,0,0,0,false,false,[],(r.zas.take 6).map (shift r.cum),0,[]⟩:=by
    rw [zlo];congr 1;split<;>omega
   rw [e];refine zal mixed Tryz.func148 zz4 ?_;(conv=>whnf)
   (refine cL ?_;refine dL (zcu r.cum) ?_)
   (refine cL ?_;refine dL (zsi r zz0 zz0) ?_)
   refine sF ?_;refine zab (by simpa using c0) (zw ?_)
   repeat refine sG ?_
   refine ⟨{x:List Span×List Span // r.zas=x.1++x.2},fun | ⟨(A,B),_⟩=>hs 46 [(1,.ptr 1 0),(2,.ptr 2 0),(3,.ptr 3 0),(19,zas r.zas),(20,i64 r.zas.length),(21,i64 A.length)] [(1,.live (.cells 37 (ych r (zas r.zas) (pieces r.pieces) (yhh r.zbp) (zky r.log)))),(2,.live (.cells 61 [i64 0,i64 0,i64 0,i64 0,i64 0,zbj false,zbj false,zeg,zeg,i64 0,zeg])),(3,.live (.cells 61 [i64 2,i64 (tag r.cum),i64 0,i64 0,i64 0,zbj false,zbj false,zeg,.own 900,i64 (0),zeg])),(900,xfd ((A.take 6).map (shift r.cum)))],fun x=>x.1.2.length,⟨([],r.zas),rfl⟩,?_,?_⟩
   . exact (zbe [(1,some 1),(2,some 2),(3,some 3),(900,none)])
   exact yy19
end Rcv
namespace Rcv
open Srt Jn Ser
theorem yrx (c:Config) (h1:-9223372036854775808<c.first) (h2:c.first<=9223372036854775807) (h3:c.streams<=1099511627776):zan Tryz.prog 106 [c.hv] zad (yiy c).hv zad:=by
 refine zcn Tryz.func106 (zxd c h1 h2 h3) ?_;(conv=>whnf)
 rfl
def wt (c:Chunk):Nat:=c.data.length+c.zbr.length+1
def wts (l:List Chunk):Nat:=(l.map wt).sum
theorem ydq (a b:List Chunk):wts (a++b)=wts a+wts b:=by simp [wts]
theorem zlp (c:Chunk) (b:List Chunk):wts (c::b)=wt c+wts b:=by simp [wts]
end Rcv
namespace Rcv
open Srt Jn Ser
theorem zlr.cumB {N:Nat} {r:Receiver} (h:zlr N r) (hN:N<=2000000):-(2 ^ 60)<=r.cum/\r.cum<=2 ^ 60:=by
 have:=h.cum1;have:=h.cum2;omega
theorem zlr.spansB {N:Nat} {r:Receiver} (h:zlr N r) (hN:N<=2000000):∀ s∈r.zas,-(2 ^ 61)<=s.lo/\s.lo<=2 ^ 61/\-(2 ^ 61)<=s.hi/\s.hi<=2 ^ 61:=fun s hs=>by
 have h1:=h.zfr s hs;have h2:=h.his s hs;have h3:=h.cum1;have h4:=h.cum2;have h5:=(zhl h.zjy s hs).1;omega
end Rcv
namespace Rcv
open Srt Jn Ser
theorem yxq (c:Config) (h1:-9223372036854775808<c.first) (h2:c.first<=9223372036854775807) (h3:c.streams<=1099511627776):zan Tryz.prog 110 [c.hv] zad (yiy c).hv zad:=by
 refine zcn Tryz.func110 (zqr c h1 h2 h3) ?_;(conv=>whnf)
 rfl
theorem yrh (r:Receiver) (c:Chunk) (hf:xig r c):zan Tryz.prog 152 [r.hv,c.hv] zad (data r c).hv zad:=by
 refine zcn Tryz.func152 (yxk r c hf) ?_;generalize data r c=d;(conv=>whnf)
 rfl
theorem ycy (r:Receiver) (c:Chunk) {N:Nat} (h:zlr N r) (hN:N<=2000000) (hc:c.zbr.length<=2 ^ 20):zan Tryz.prog 153 [r.hv,c.hv] zad (forward r c).hv zad:=by
 refine zcn Tryz.func153 (yhy r c h hN hc) ?_;generalize forward r c=d;(conv=>whnf)
 rfl
theorem ysf (r:Receiver) (h1:r.zas.length<2 ^ 40) (h2:r.pieces.length<2 ^ 40) (h3:tot r.pieces<2 ^ 60) (hc:-(2 ^ 60)<=r.cum) (hc2:r.cum<=2 ^ 60) (hsp:∀ s∈r.zas,-(2 ^ 61)<=s.lo/\s.lo<=2 ^ 61/\-(2 ^ 61)<=s.hi/\s.hi<=2 ^ 61) :
 zan Tryz.prog 154 [r.hv] zad (zlo r).hv zad:=by
 refine zcn Tryz.func154 (yxy r h1 h2 h3 hc hc2 hsp) ?_;(conv=>whnf)
 rfl
theorem zxc (r:Receiver) (hr:Fit r):zan Tryz.prog 111 [r.hv] zad r.hv zad:=by
 refine zcn Tryz.func111 (zdu r hr) ?_;(conv=>whnf)
 rfl
def xjb:Config:=⟨2,4,60,1,1,5,7⟩
def a8:Chunk:=⟨1,8,0,1,0,true,true,[98],[],0,[]⟩
def a7:Chunk:=⟨1,7,0,0,0,true,true,[97],[],0,[]⟩
def r1:Receiver:=⟨xjb,6,[⟨8,8⟩],[⟨8,a8⟩],[0,0],[]⟩
def r2:Receiver:=⟨xjb,8,[],[],[2,0],[⟨0,0,true,[97]⟩,⟨0,1,true,[98]⟩]⟩
end Rcv
namespace Ln
open Ser
def xbi (w:List zau) (p:zau):List zau:=if w.length<40 then w++[p] else w
def zmb (w ps:List zau):List zau:=ps.foldl xbi w
def zgb (back:Bool) (x:zem×Bool) (c:Chunk):zem×Bool :=
 if back then ({x.1 with sender:=Snd.yfg x.1.sender c},x.2) else
 if c.kind=1 then ({x.1 with receiver:=Rcv.data x.1.receiver c},true) else
 if c.kind=3 then ({x.1 with receiver:=Rcv.forward x.1.receiver c},true) else x
def told (path:Int) (l:zem):zem:=if (Pck.zdb [Rcv.zlo l.receiver] 120).2=0 then {l with way:=zmb l.way [⟨path,true,(Pck.zdb [Rcv.zlo l.receiver] 120).1⟩]} else l
def zjj (l:zem) (p:zau):zem×Bool:=(Pck.zhc p.bytes).1.foldl (zgb p.back) (l,false)
def zgz (l:zem) (p:zau):zem :=
 if (Pck.zhc p.bytes).2≠0 then l else if (zjj l p).2 then told p.path (zjj l p).1 else (zjj l p).1
def emit (l:zem):zem:={l with sender:=(Snd.zjp l.sender).1,way:=zmb l.way (Snd.zjp l.sender).2}
def doS (l:zem) (x:Step):zem×Answer :=
 if x.kind=1 then (if Snd.zff l.sender x.message=0 then (emit {l with sender:=Snd.zht l.sender x.message},⟨0,l.sender.fates.length⟩) else (l,⟨Snd.zff l.sender x.message,0⟩)) else
 if x.kind=2\/x.kind=3\/x.kind=4 then (if x.n<0 then (l,⟨6,0⟩) else match l.way[x.n.toNat]? with
  | none=>(l,⟨6,0⟩)
  | some p=>if x.kind=4 then (emit {l with way:=zmb l.way [p]},⟨0,0⟩) else
   (emit (if x.kind=2 then zgz {l with way:=l.way.eraseIdx x.n.toNat} p else {l with way:=l.way.eraseIdx x.n.toNat}),⟨0,0⟩)) else
 if x.kind=5 then (emit {l with sender:=Snd.tick l.sender},⟨0,0⟩) else (l,⟨1,0⟩)
def zmp (c:Config):zem:=⟨Snd.yby c,Rcv.yiy c,[]⟩
def zot:zem->List Step->zem×List Answer
 | l,[]=>(l,[])
 | l,x::r=>((zot (doS l x).1 r).1,(doS l x).2::(zot (doS l x).1 r).2)
theorem yop:∀ (a:List Step) (l:zem) (b:List Step),zot l (a++b)=((zot (zot l a).1 b).1,(zot l a).2++(zot (zot l a).1 b).2)
 | [],l,b=>rfl
 | x::a,l,b=>by
  have h:=yop a (doS l x).1 b;rw [zy40,zot,h];rfl
theorem zqi:∀ (a:List Step) (l:zem),(zot l a).2.length=a.length
 | [],_=>rfl
 | x::a,l=>by rw [zot,zy6,zqi a];rfl
theorem yku:∀ (ps w:List zau),w.length<=40->(zmb w ps).length<=40
 | [],w,h=>h
 | p::ps,w,h=>by
  unfold zmb;rw [zy50];refine yku ps _ ?_;unfold xbi;split
  . simp;omega
  . exact h
theorem ywr:∀ (ps w:List zau),∀ p∈zmb w ps,p∈w\/p∈ps
 | [],w,p,h=>.inl h
 | q::ps,w,p,h=>by
  unfold zmb at h;rw [zy50] at h;rcases ywr ps _ p h with h | h
  . unfold xbi at h
    split at h
    . rcases zy21.1 h with h | h
      . exact .inl h
      . rw [zy23] at h;subst h;exact .inr zz5
    . exact .inl h
  . exact .inr (by simp [h])
theorem zzl (l:List Chunk) (most:Int) (h:0<=most):((Pck.zdb l most).1.length:Int)<=most:=by
 unfold Pck.zdb
 (repeat' split)<;>first | (simp;omega) | (dsimp only;omega)
theorem xdl (kind:Int) (b:List UInt8):(Chk.zda kind b).1.data.length+(Chk.zda kind b).1.zbr.length<=b.length/\(Chk.zda kind b).1.zas.length<=b.length:=by
 have h1:=Chk.zmv (b.drop 2);have h2:=Chk.zli (b.drop 4);have h3:(b.drop 2).length<=b.length:=by simp
 have h4:(b.drop 4).length<=b.length:=by simp
 unfold Chk.zda
 (repeat' split)<;>constructor<;>first | (simp [Chk.no];done) | (dsimp only [Chk.no];simp;omega) | (dsimp only [Chk.no];omega)
theorem xbd {b:List UInt8} (h:(Chk.parse b).2.2=0):Rcv.wt (Chk.parse b).1+1<=(Chk.parse b).2.1.toNat/\(Chk.parse b).2.1.toNat<=b.length/\(Chk.parse b).1.zas.length<=b.length:=by
 have h1:=xdl (b[0]?.getD 0).toNat ((b.drop 2).take (b[1]?.getD 0).toNat);have h2:((b.drop 2).take (b[1]?.getD 0).toNat).length<=(b[1]?.getD 0).toNat:=by simp;omega
 have h3:((b.drop 2).take (b[1]?.getD 0).toNat).length<=b.length:=by simp;omega
 unfold Chk.parse at h ⊢
 (repeat' split at h)<;>first | contradiction | skip
 . rename_i c1 c2 c3 c4
   rw [zy0 c1,zy0 c2,zy0 c3,zy0 c4];unfold Rcv.wt;dsimp only;refine ⟨by omega,by omega,by omega⟩
theorem ygw:∀ (f:Nat) (b:List UInt8),Rcv.wts (Pck.zfn f b).1<=b.length/\∀ c∈(Pck.zfn f b).1,c.zas.length<=b.length/\Rcv.wt c<=b.length
 | 0,b=>by simp [Pck.zfn,Rcv.wts]
 | f+1,b=>by
  have ih:=ygw f (b.drop (Chk.parse b).2.1.toNat);unfold Pck.zfn
  (repeat' split)<;>first | (simp [Rcv.wts];done) | skip
  rename_i c1 c2 c3;have hp:=xbd (Decidable.not_not.1 c2);rw [zy38] at ih;refine ⟨?_,fun c hc=>?_⟩
  . dsimp only
    rw [Rcv.zlp];omega
  . rcases zy14.1 hc with rfl | hc
    . exact ⟨hp.2.2,by omega⟩
    . have:=ih.2 c hc;omega
theorem zwl (b:List UInt8):Rcv.wts (Pck.zhc b).1<=b.length/\∀ c∈(Pck.zhc b).1,c.zas.length<=b.length/\Rcv.wt c<=b.length:=by
 unfold Pck.zhc;split
 . simp [Rcv.wts]
 . exact ygw _ _
theorem ywf {most path:Int} {l:List Chunk} (h0:0<=most):∀ p∈Snd.zlz most path l,(p.bytes.length:Int)<=most/\p.back=false:=by
 intro p hp;unfold Snd.zlz at hp;split at hp
 . rw [zy23] at hp;subst hp;exact ⟨zzl _ _ h0,rfl⟩
 . simp at hp
theorem ygt {most path:Int} (h0:0<=most):∀ (n:Nat) (l:List Chunk),∀ p∈Snd.zfm most path n l,(p.bytes.length:Int)<=most/\p.back=false
 | 0,l,p,hp=>by simp [Snd.zfm] at hp
 | n+1,l,p,hp=>by
  unfold Snd.zfm at hp;split at hp
  . simp at hp
  . rcases zy21.1 hp with hp | hp
    . exact ywf h0 p hp
    . exact ygt h0 n _ p hp
theorem ztg {most:Int} (h0:0<=most):∀ (ls:List (List Chunk)) (k:Nat),∀ p∈Snd.zbs most k ls,(p.bytes.length:Int)<=most/\p.back=false
 | [],k,p,hp=>by simp [Snd.zbs] at hp
 | l::ls,k,p,hp=>by
  unfold Snd.zbs at hp;rcases zy21.1 hp with hp | hp
  . exact ygt h0 _ _ p hp
  . exact ztg h0 ls _ p hp
structure LI (N M:Nat) (l:zem):Prop where
 snd:Snd.SI N l.sender
 rcv:Rcv.zlr M l.receiver
 small:M<=2000000
 way:l.way.length<=40
 bytes:∀ p∈l.way,p.bytes.length<=120
section
variable {N M:Nat} {l:zem}
theorem LI.more (h:LI N M l) {M':Nat} (h1:M<=M') (h2:M'<=2000000):LI N M' l:=⟨h.snd,h.rcv.more h1,h2,h.way,h.bytes⟩
theorem ybi {back:Bool} {x:zem×Bool} {c:Chunk} (h:LI N M x.1) (hM:M+Rcv.wt c<=2000000):LI N (M+Rcv.wt c) (zgb back x c).1:=by
 have hw:Rcv.wt c=c.data.length+c.zbr.length+1:=rfl;unfold zgb;split
 . exact ⟨Snd.xea h.snd c,h.rcv.more zz0,hM,h.way,h.bytes⟩
 split
 . exact ⟨h.snd,(Rcv.yzb h.rcv zz0 c).more zz0,hM,h.way,h.bytes⟩
 split
 . exact ⟨h.snd,(Rcv.yjq h.rcv zz0 c zz0).more zz0,hM,h.way,h.bytes⟩
 . exact h.more zz0 hM
theorem ynd {back:Bool}:∀ (cs:List Chunk) {M:Nat} {x:zem×Bool},LI N M x.1->M+Rcv.wts cs<=2000000->LI N (M+Rcv.wts cs) (cs.foldl (zgb back) x).1
 | [],M,x,h,_=>h
 | c::cs,M,x,h,hM=>by
  rw [Rcv.zlp] at hM ⊢;have:=ynd (back:=back) cs (ybi (back:=back) (c:=c) h zz0) zz0;rw [<- zy97];exact this
theorem yhc (h:LI N M l) {ps:List zau} (hp:∀ p∈ps,p.bytes.length<=120):LI N M {l with way:=zmb l.way ps} :=
 ⟨h.snd,h.rcv,h.small,yku ps _ h.way,fun p hq=>by rcases ywr ps _ p hq with hq | hq;exact h.bytes p hq;exact hp p hq⟩
theorem xfm (h:LI N M l) (path:Int):LI N M (told path l):=by
 unfold told;split
 . refine yhc h fun p hp=>?_
   rw [zy23] at hp;subst hp;have:=zzl [Rcv.zlo l.receiver] 120 zz4;dsimp only;omega
 . exact h
theorem zvd (h:LI N M l) {p:zau} (hp:p.bytes.length<=120) (hM:M+120<=2000000):LI N (M+120) (zgz l p):=by
 have hw:=(zwl p.bytes).1;have h2:LI N (M+120) (zjj l p).1:=(ynd (back:=p.back) (Pck.zhc p.bytes).1 (x:=(l,false)) h zz0).more zz0 hM;unfold zgz;split
 . exact h.more zz0 hM
 split
 . exact xfm h2 _
 . exact h2
theorem yax (h:LI N M l):LI N M (emit l):=by
 have hw:=Snd.zdf h.snd.cfg;have hc:=Snd.xbg h.snd;have h2:LI N M {l with sender:=(Snd.zjp l.sender).1}:=⟨Snd.xex h.snd,h.rcv,h.small,h.way,h.bytes⟩
 refine yhc h2 fun p hp=>?_
 have:=(ztg zz0 _ _ p hp).1;omega
theorem yme (h:LI N M l) (x:Step) (hN:N+1<=2 ^ 20) (hM:M+120<=2000000):LI (N+1) (M+120) (doS l x).1:=by
 have h0:LI (N+1) (M+120) l:=⟨h.snd.mono zz0 hN,h.rcv.more zz0,hM,h.way,h.bytes⟩
 unfold doS;split
 . split
   . rename_i e
     exact yax (l:={l with sender:=Snd.zht l.sender x.message}) ⟨Snd.zwt h.snd e hN,h0.rcv,hM,h.way,h.bytes⟩
   . exact h0
 split
 . split
   . exact h0
   split
   . exact h0
   rename_i p hp;have hb:=h.bytes p (zy20 hp);have he:∀ {N M:Nat},LI N M l->LI N M {l with way:=l.way.eraseIdx x.n.toNat}:=fun h =>
    ⟨h.snd,h.rcv,h.small,by show (l.way.eraseIdx _).length<=40;have:=h.way;rw [zy73];split<;>omega,fun q hq=>h.bytes q (zy63 hq)⟩
   split
   . refine yax (yhc h0 fun q hq=>?_)
     rw [zy23] at hq;subst hq;exact hb
   . refine yax ?_
     split
     . exact zvd (he ⟨h.snd.mono zz0 hN,h.rcv,h.small,h.way,h.bytes⟩) hb hM
     . exact he h0
 split
 . exact yax (l:={l with sender:=Snd.tick l.sender}) ⟨Snd.zxk h0.snd,h0.rcv,hM,h.way,h.bytes⟩
 . exact h0
theorem yor:∀ (a:List Step) {N M:Nat} {l:zem},LI N M l->N+a.length<=2 ^ 20->M+120*a.length<=2000000->LI (N+a.length) (M+120*a.length) (zot l a).1
 | [],N,M,l,h,_,_=>h
 | x::a,N,M,l,h,h1,h2=>by
  simp only [zy6] at h1 h2 ⊢;have:=yor a (yme h x zz0 zz0) zz0 zz0;rw [show N+(a.length+1)=N+1+a.length by omega,show M+120*(a.length+1)=M+120+120*a.length by omega];exact this
end
theorem ybx {c:Config} (h:Snd.zjf c=0):LI 0 0 (zmp c):=by
 have hw:=Snd.zdf h;have hl:(Rcv.yiy c).zbp.length<=4:=by simp [Rcv.yiy];omega
 have ht:∀ t∈(Rcv.yiy c).zbp,t=0:=fun t ht=>(zy138.1 ht).2
 exact ⟨Snd.xgy h,⟨zy24 _,zy24 _,zy24 _,trivial,by simp [zmp,Rcv.yiy],by simp [zmp,Rcv.yiy],by show -1<=c.first-1;omega,by show c.first-1<=_;omega,fun t htt=>by rw [ht t htt];decide,fun t htt=>by rw [ht t htt];simp [zmp,Rcv.yiy],by show (Rcv.yiy c).zbp.length<_;omega⟩,by decide,by simp [zmp],by simp [zmp]⟩
end Ln
namespace Ln
open Ser
abbrev zhh (l:List zau):zai:=.live (.row 110 3 (l.map zau.row))
abbrev pks (l:List zau):HV:=.p (.sl 3 (l.map zau.row))
def lnC (s:zag) (r:Receiver) (w:HV):List HV:=[i64 s.config.streams,i64 s.config.part,i64 s.config.packet,i64 s.config.paths,i64 s.config.turns,i64 s.config.waiting,i64 s.config.first,i64 s.clock,Sch.qs s.queue,i64 s.sched.last,i64 s.sched.hand,ints s.sched.had,Sco.zdz s.out,Snd.zpe s.paths,i64 s.cum,i64 s.next,i64 s.room,ints s.mids,ints s.fates,zbj s.forward,i64 s.recover,
 i64 r.config.streams,i64 r.config.part,i64 r.config.packet,i64 r.config.paths,i64 r.config.turns,i64 r.config.waiting,i64 r.config.first,i64 r.cum,.p (.sl 2 (r.zas.map Span.row)),.p (.sl 12 (r.pieces.map zav.row)),ints r.zbp,.p (.sl 4 (r.log.map zbf.row)),w]
abbrev lnB (s:zag) (r:Receiver) (w:HV):zai:=.live (.cells 40 (lnC s r w))
theorem ype (ps:List zau) (h1:ps.length<2 ^ 22) (h2:∀ p∈ps,p.bytes.length<2 ^ 38):zan Tryz.prog 112 [pks ps] zad (.own 0) (lk .free [(0,zhh ps)]):=by
 refine zaq mixed Tryz.func112 zz4 [] (fun _=>.inl rfl) ?_;(conv=>whnf);refine ⟨{x:List zau×List zau // ps=x.1++x.2},fun | ⟨(A,B),_⟩=>hs 22 [(3,.own 900),(6,pks ps),(7,i64 ps.length),(8,i64 A.length)] [(900,zhh A)],fun x=>x.1.2.length,⟨([],ps),rfl⟩,?_,?_⟩
 . exact (zbe [(900,none)])
 rintro ⟨⟨A,B⟩,h⟩;dsimp only at h;(conv=>whnf);cases B with
 | cons p B =>
  have hz:=zay h;have hp:=h2 p (zgm h);refine sT ?_;refine zaj h rfl (zw ?_)
  (refine zat [(0,14)]  ?_;(conv=>whnf);refine dO (Cl.zdc p.bytes zz0) ?_)
  refine zaa (c:=((A.map zau.row).length+1)*40<=140737488355328) zz3 (zw ?_);refine sF ?_;exact ⟨⟨(A++[p],B),zae h⟩,(zax [(900,some 19)] (by repeat' (first | exact z0 | refine z1 ?_ | refine ⟨?_,?_⟩ | ((exact zbc (f:=zau.row) rfl rfl)) | exact z2))),by simp⟩
 | nil =>
  have hz:=zbk h;rw [zy5] at h;refine sN ?_;exact zap [(0,some 900)] rfl rfl trivial rfl rfl ⟨⟨rfl,.inl ⟨900,rfl,by exact zar (by rw [h])⟩⟩,trivial⟩
theorem yxt (l:zem) (h1:Snd.Fit l.sender) (h2:Rcv.Fit l.receiver) (h3:l.way.length<2 ^ 22) (h4:∀ p∈l.way,p.bytes.length<2 ^ 38):zan Tryz.prog 55 [l.hv] zad (.agg (lnC l.sender l.receiver (.own 0))) (lk .free [(0,zhh l.way)]):=by
 refine zaq mixed Tryz.func55 zz4 [] (fun _=>.inl rfl) ?_;(conv=>whnf)
 (refine cP ?_;refine dL (Snd.zxc l.sender h1) ?_)
 (refine cP ?_;refine dL (Rcv.zxc l.receiver h2) ?_)
 (refine zat [(0,20)]  ?_;(conv=>whnf);refine dO (ype l.way h3 h4) ?_)
 refine sD ?_;exact yy22
theorem yot (w A:List zau) (p:zau):zmb w (A++[p])=xbi (zmb w A) p:=by simp [zmb]
theorem zlj (s:zag) (r:Receiver) (w ps:List zau) (h1:ps.length<2 ^ 62):zan Tryz.prog 116 [.ptr 1000 0,pks ps] (lk .free [(1000,lnB s r (.own 1001)),(1001,zhh w)]) (.tup []) (lk .free [(1000,lnB s r (.own 0)),(0,zhh (zmb w ps)),(1001,.dead)]):=by
 refine zaq mixed Tryz.func116 zz4 [1000,1001] zbq ?_;(conv=>whnf);refine ⟨{x:List zau×List zau // ps=x.1++x.2},fun | ⟨(A,B),_⟩=>hsP [1000,1001] 29 [(0,.ptr 1000 0),(6,pks ps),(7,i64 ps.length),(8,i64 A.length)] [(1000,lnB s r (.own 900)),(900,zhh (zmb w A)),(1001,.dead)],fun x=>x.1.2.length,⟨([],ps),rfl⟩,?_,?_⟩
 . exact (zdj [(1000,some 1000),(1001,some 1001),(900,some 1001)])
 rintro ⟨⟨A,B⟩,h⟩;dsimp only at h;(conv=>whnf);cases B with
 | cons p B =>
  have hz:=zay h;refine sT ?_;refine zaj h rfl (zw ?_);by_cases c:(zmb w A).length<40
  case pos =>
   refine sT ?_;refine zaa (c:=(((zmb w A).map zau.row).length+1)*40<=140737488355328) zz3 (zw ?_);refine sD ?_;refine sF ?_;exact ⟨⟨(A++[p],B),zae h⟩,(zcc [(1000,some 1000),(1001,some 1001),(900,some 25)] (by repeat' (first | exact z0 | refine z1 ?_ | refine ⟨?_,?_⟩ | ((exact zbc (f:=zau.row) (by rw [yot,xbi,zy1 c]) rfl)) | exact z2))),by simp⟩
  case neg =>
   refine sN ?_;refine sF ?_;exact ⟨⟨(A++[p],B),zae h⟩,(zcc [(1000,some 1000),(1001,some 1001),(900,some 900)] (by repeat' (first | exact z0 | refine z1 ?_ | refine ⟨?_,?_⟩ | ((exact zar (by rw [yot,xbi,zy0 c]))) | exact z2))),by simp⟩
 | nil =>
  have hz:=zbk h;rw [zy5] at h;refine sN ?_
  (exact zcx [(1000,some 1000),(1001,some 1001),(0,some 900)] zz91)
end Ln
namespace Ln
open Ser
theorem yfh (back:Bool) (x:zem×Bool) (c:Chunk):(zgb back x c).1.way=x.1.way:=by
 unfold zgb;(repeat' split)<;>rfl
theorem ylt:∀ cs:List Chunk,cs.length<=Rcv.wts cs
 | []=>by simp [Rcv.wts]
 | c::cs=>by
  have:=ylt cs;rw [Rcv.zlp,zy6];unfold Rcv.wt;omega
theorem zxj (r:Receiver):Pck.zev [Rcv.zlo r]:=⟨by simp,fun c hc=>by
 rw [zy23] at hc;subst hc;exact ⟨by simp [Rcv.zlo];omega,by simp [Rcv.zlo]⟩⟩
theorem yrj {N M:Nat} (l:zem) (p:zau) (h:LI N M l) (hM:M+120<=2000000) (hp:p.bytes.length<=120):zan Tryz.prog 118 [.ptr 1000 0,p.hv] (lk .free [(1000,lnB l.sender l.receiver (.own 1001)),(1001,zhh l.way)]) (.tup [])
 (lk .free [(1000,lnB (zgz l p).sender (zgz l p).receiver (.own 0)),(0,zhh (zgz l p).way),(1001,.dead)]):=by
 obtain ⟨path,back,bytes⟩:=p;dsimp only at hp;generalize hT:zgz l ⟨path,back,bytes⟩=T;refine zaq mixed Tryz.func118 zz4 [1000,1001] zbq ?_;(conv=>whnf);have hw:=zwl bytes
 (refine cP ?_;refine dL (Pck.yle bytes zz0) ?_)
 rw [zgz] at hT;dsimp only at hT;have hall:zjj l ⟨path,back,bytes⟩=(Pck.zhc bytes).1.foldl (zgb back) (l,false):=rfl;generalize Pck.zhc bytes=K at hT hw hall ⊢;obtain ⟨cs,e⟩:=K;dsimp only at hT hw hall;by_cases c1:e=0
 case neg =>
  rw [zy1 c1] at hT;subst hT;rw [show (e != 0)=true from zy76.2 c1];(conv=>whnf)
  (exact zci [(1000,some 1000),(1001,some 1001),(0,some 1001)])
 case pos =>
 subst c1;rw [zy0 (fun h=>h rfl)] at hT;(conv=>whnf)
 repeat refine sG ?_
 refine ⟨{x:(zem×Bool)×List Chunk×List Chunk // cs=x.2.1++x.2.2/\x.2.1.foldl (zgb back) (l,false)=x.1/\LI N (M+Rcv.wts x.2.1) x.1.1/\x.1.1.way=l.way},fun | ⟨((y,told),A,B),_⟩=>hsP [1000,1001] 85 [(0,.ptr 1000 0),(3,.ptr 3 0),(6,zbj told),(19,.p (.sl 11 (cs.map Chunk.row))),(20,i64 cs.length),(21,i64 A.length)] [(1000,lnB y.sender y.receiver (.own 1001)),(1001,zhh l.way),(3,.live (.cells 110 (⟨path,back,bytes⟩:zau).cells))],fun x=>x.1.2.2.length,⟨((l,false),[],cs),rfl,rfl,h,rfl⟩,?_,?_⟩
 . exact (zdj [(1000,some 1000),(1001,some 1001),(3,some 3)])
 rintro ⟨⟨⟨y,told⟩,A,B⟩,k1,k2,k3,k4⟩;dsimp only at k1 k2 k3 k4;(conv=>whnf);cases B with
 | cons c B =>
  have hz:=zay k1;obtain ⟨w1,w2⟩:=hw;have hcl:=ylt cs;have hc:=w2 c (zgm k1);have hsum:Rcv.wts cs=Rcv.wts A+(Rcv.wt c+Rcv.wts B):=by rw [k1,Rcv.ydq,Rcv.zlp]
  have hwt:Rcv.wt c=c.data.length+c.zbr.length+1:=rfl;have hnx:(A++[c]).foldl (zgb back) (l,false)=zgb back (y,told) c:=by rw [zy59,k2];rfl
  have hli:=ybi (back:=back) (x:=(y,told)) (c:=c) k3 zz0;have hwy:=(yfh back (y,told) c).trans k4;rw [show M+Rcv.wts A+Rcv.wt c=M+Rcv.wts (A++[c]) by rw [Rcv.ydq,Rcv.zlp];simp [Rcv.wts];omega] at hli;have hfit:=k3.rcv.fit zz0;refine sT ?_;refine zaj k1 rfl (zw ?_)
  repeat refine sG ?_
  cases back with
  | true =>
   conv=>whnf
   (refine cP ?_;refine dL (Snd.yxm y.sender c k3.snd.fit k3.snd.right zz0) ?_)
   refine sD ?_
   repeat refine sG ?_
   refine sF ?_;exact ⟨⟨(zgb true (y,told) c,A++[c],B),zae k1,hnx,hli,hwy⟩,(zdj [(1000,some 1000),(1001,some 1001),(3,some 3)]),by simp⟩
  | false =>
   conv=>whnf
   repeat refine sG ?_
   by_cases d1:c.kind=1
   case pos =>
    have e1:zgb false (y,told) c=({y with receiver:=Rcv.data y.receiver c},true):=by unfold zgb;rw [zy0 (by decide),zy1 d1]
    rw [e1] at hnx hli hwy;rw [show (c.kind==1)=true from zy13.2 d1];(conv=>whnf)
    (refine cP ?_;refine dL (Rcv.yrh y.receiver c (k3.rcv.dfit zz0 zz0)) ?_)
    refine sD ?_
    repeat refine sG ?_
    refine sF ?_;exact ⟨⟨(({y with receiver:=Rcv.data y.receiver c},true),A++[c],B),zae k1,hnx,hli,hwy⟩,(zdj [(1000,some 1000),(1001,some 1001),(3,some 3)]),by simp⟩
   case neg =>
    rw [show (c.kind==1)=false from zy4.2 d1];(conv=>whnf)
    repeat refine sG ?_
    by_cases d2:c.kind=3
    case pos =>
     have e1:zgb false (y,told) c=({y with receiver:=Rcv.forward y.receiver c},true):=by unfold zgb;rw [zy0 (by decide),zy0 d1,zy1 d2]
     rw [e1] at hnx hli hwy;rw [show (c.kind==3)=true from zy13.2 d2];(conv=>whnf)
     (refine cP ?_;refine dL (Rcv.ycy y.receiver c k3.rcv zz0 zz0) ?_)
     refine sD ?_
     repeat refine sG ?_
     refine sF ?_;exact ⟨⟨(({y with receiver:=Rcv.forward y.receiver c},true),A++[c],B),zae k1,hnx,hli,hwy⟩,(zdj [(1000,some 1000),(1001,some 1001),(3,some 3)]),by simp⟩
    case neg =>
     have e1:zgb false (y,told) c=(y,told):=by unfold zgb;rw [zy0 (by decide),zy0 d1,zy0 d2]
     rw [e1] at hnx hli hwy;rw [show (c.kind==3)=false from zy4.2 d2];(conv=>whnf)
     repeat refine sG ?_
     refine sF ?_;exact ⟨⟨((y,told),A++[c],B),zae k1,hnx,hli,hwy⟩,(zdj [(1000,some 1000),(1001,some 1001),(3,some 3)]),by simp⟩
 | nil =>
  have hz:=zbk k1;rw [zy5] at k1;rw [<- k1] at k2 k3;rw [hall,k2] at hT;dsimp only at hT;obtain ⟨w1,w2⟩:=hw;have hfit:=k3.rcv.fit zz0;refine sN ?_;cases told with
  | false =>
   rw [zy0 (by decide)] at hT;subst hT;(conv=>whnf)
   (exact zcx [(1000,some 1000),(1001,some 1001),(0,some 1001)] zz54)
  | true =>
   rw [zy1 rfl] at hT;(conv=>whnf)
   repeat refine sG ?_
   have hcb:=k3.rcv.cumB zz0
   (refine cP ?_;refine dL (Rcv.ysf y.receiver zz137 (by have:=hfit.pieces;omega) (by have:=hfit.bytes;omega) hcb.1 hcb.2 (k3.rcv.spansB zz0)) ?_)
   (refine cP ?_;refine dL (Pck.zgk [Rcv.zlo y.receiver] 120 (zxj _)) ?_)
   unfold Ln.told at hT;generalize Pck.zdb [Rcv.zlo y.receiver] 120=K2 at hT ⊢;obtain ⟨b,e⟩:=K2;dsimp only at hT;by_cases c3:e=0
   case pos =>
    rw [zy1 c3] at hT;subst hT c3;(conv=>whnf)
    (refine zaf [false,true] [(1000,1000),(1001,1001)] [(0,940)] ?_;(conv=>whnf);refine dG (zlj y.sender y.receiver l.way [⟨path,true,b⟩] zz5) ?_)
    (exact zcx [(1000,some 1000),(1001,some 1001),(0,some 940)] zz54)
   case neg =>
    rw [zy0 c3] at hT;subst hT;rw [show (e==0)=false from zy4.2 c3];(conv=>whnf)
    (exact zcx [(1000,some 1000),(1001,some 1001),(0,some 1001)] zz54)
end Ln
namespace Snd
open Ser
theorem PF.down {j i:Nat} {s:zag} (h:PF (j+i) s):PF j s:=⟨h.g,h.some,h.part,h.part2,h.msg,h.chunk,zy142 (Nat.add_le_add_left (zy60 _ (Nat.le_add_right j i)) _) h.bytes,h.few⟩
theorem PO.down {g:Config} {j i n k:Nat} {p:zew} (h:PO g (j+i) n k p):PO g j n k p:=⟨h.pf.down,h.paths,h.outs,h.config,h.most⟩
theorem yod:∀ (i:Nat) {g:Config} {j n k:Nat} {p:zew},PO g (j+i) n k p->PO g j n (k+i) (zfl i p)
 | 0,_,_,_,_,_,h=>h
 | i+1,g,j,n,k,p,h=>by
  unfold zfl;rcases ykp (j:=j+i) h with ⟨-,e⟩ | ⟨q,-,e,-,-,h2⟩
  . rw [e];exact h.down.mono zz0
  . rw [e]
    have:=yod i h2;exact this.mono zz0
theorem ygv (most path:Int):∀ (n:Nat) (l:List Chunk),(zfm most path n l).length<=n
 | 0,l=>by simp [zfm]
 | n+1,l=>by
  have:=ygv most path n (l.drop (zcb most l).toNat);have h1:(zlz most path l).length<=1:=by unfold zlz;split<;>simp
  unfold zfm;split
  . simp
  . rw [zy10];omega
theorem zth (most:Int) {k:Nat}:∀ (ls:List (List Chunk)) (i:Nat),(∀ l∈ls,l.length<=k)->(zbs most i ls).length<=k*ls.length
 | [],i,_=>by simp [zbs]
 | l::ls,i,h=>by
  have h1:=ygv most i l.length l;have h2:=zth most ls (i+1) fun x hx=>h x zz92
  have h3:=h l zz5;unfold zbs;rw [zy10,zy6,Nat.mul_add];omega
theorem zhj {N:Nat} {s:zag} (h:SI N s):(zjp s).2.length<2 ^ 62:=by
 have e1:=yan (znj (zpq h.pf));have e2:=yod (j:=1) 61 e1;have h1:=(znj (zpq h.pf)).pf.few;have h2:=h.npaths;have h3:=zdf h.cfg;have h4:=zth s.config.packet (zmt s).out 0 fun l hl=>(e2.most l hl).1
 have h5:(zmt s).out.length=s.paths.length:=e2.outs;rw [h5] at h4;have h6:s.paths.length<=2:=by omega
 show (zbs s.config.packet 0 (zmt s).out).length<_;refine zy142 h4 (zy142 (Nat.mul_le_mul_left _ h6) ?_);omega
end Snd
namespace Ln
open Ser
def noR:Receiver:=⟨⟨0,0,0,0,0,0,0⟩,0,[],[],[],[]⟩
def noL:zem:=⟨Snd.noS,noR,[]⟩
def ztr (c:Config):zem×Int:=if Snd.zjf c=0 then (zmp c,0) else (noL,Snd.zjf c)
theorem yib (c:Config):zan Tryz.prog 54 [c.hv] zad (.tup [(ztr c).1.hv,i64 (ztr c).2]) zad:=by
 refine zal mixed Tryz.func54 zz4 ?_;(conv=>whnf);have pn:=Snd.zqr c;by_cases c1:Snd.zjf c=0
 case neg =>
  rw [show ztr c=(noL,Snd.zjf c) from zy0 c1];rw [show Snd.yix c=(Snd.noS,Snd.zjf c) from zy0 c1] at pn
  (refine cP ?_;refine dL pn ?_)
  rw [show (Snd.zjf c != 0)=true from zy76.2 c1];(conv=>whnf)
  try rfl
 case pos =>
  have hw:=Snd.zdf c1;rw [show ztr c=(zmp c,0) from zy1 c1];rw [show Snd.yix c=(Snd.yby c,0) from zy1 c1] at pn
  (refine cP ?_;refine dL pn ?_)
  repeat refine sG ?_
  (refine cP ?_;refine dL (Rcv.yxq c zz0 zz0 zz0) ?_)
  ((refine zaw ?_ ?_;(· kernel_rfl);conv=>whnf);try refine sG ?_)
  try rfl
theorem yzd (l:List zau) (i j:Nat) (hij:i<=j) (hj:j<=l.length) (hb:l.length<2 ^ 40) :
 zan Tryz.prog 117 [.osl 1000 3 0 (l.map zau.row).length,i64 i,i64 j] (lk .free [(1000,.live (.row 110 3 (l.map zau.row)))])
  (.osl 1000 3 0 (l.length-(j-i))) (lk .free [(1000,.live (.row 110 3 ((l.take i++l.drop j).map zau.row++List.replicate (j-i) ([pi 0,pb false,.v (.slice none 0 0)]))))]):=by
 refine zaq mixed Tryz.func117 zz4 [1000] zbq ?_;have hlr:(l.map zau.row).length=l.length:=by simp
 (conv=>whnf);refine sO ?_;by_cases h:i=j
 . subst h
   refine sT ?_;refine zap [(1000,some 1000)] rfl rfl ⟨rfl,trivial⟩ rfl ?_ ⟨⟨rfl,.inl ⟨1000,rfl,?_⟩⟩,trivial⟩
   . show HV.osl 1000 3 0 (l.length-(i-i))=HV.osl 1000 3 0 (l.map zau.row).length
     rw [hlr,zy95];rfl
   . show zai.live (.row _ 3 (l.map zau.row))=zai.live (.row _ 3 _)
     rw [zy32,zy95,zy135,zy5]
 . refine sN ?_
   refine sO ?_;refine sO ?_;refine ⟨_,rfl,?_,?_⟩
   . rw [hlr];omega
   (conv=>whnf);refine zaa zz3 ?_;(conv=>whnf);refine zaw ?_ ?_
   . kernel_rfl
   (conv=>whnf);refine zaa zz63 ?_;(conv=>whnf);refine zaa zz63 ?_;(conv=>whnf);refine zap [(1000,some 1000)] rfl rfl ⟨rfl,trivial⟩ rfl ?_ ⟨⟨rfl,.inl ⟨1000,rfl,?_⟩⟩,trivial⟩
   . show HV.osl 1000 3 0 _=HV.osl 1000 3 0 _
     congr 1;simp;omega
   . refine (congrArg (fun r=>zai.live (.row _ 3 r)) (yav (rows:=l.map zau.row) (i:=i) (j:=j) (z:=([pi 0,pb false,.v (.slice none 0 0)])) hij (by rw [hlr];exact hj) ?_ ?_ ?_ ?_ ?_)).trans ?_
     . simp<;>omega
     . simp<;>omega
     . simp<;>omega
     . simp;omega
     . simp;omega
     . rw [zy34,zy122,zy104];rfl
theorem xgh (l:List zau) (i j:Nat) (hij:i<=j) (hj:j<=l.length) (hb:l.length<2 ^ 40) :
 zan Tryz.prog 117 [.own 1000,i64 i,i64 j] (lk .free [(1000,.live (.row 110 3 (l.map zau.row)))])
  (.own 0) (lk .free [(1000,.dead),(0,.live (.row 110 3 ((l.take i++l.drop j).map zau.row)))]):=by
 have h:=zkf (d:=0) (L:=[]) (rows:=(l.take i++l.drop j).map zau.row++List.replicate (j-i) ([pi 0,pb false,.v (.slice none 0 0)])) (zvl (yzd l i j hij hj hb)) (.inl rfl) zz3 rfl zz4
 rwa [zy86 zz3] at h
theorem yqb (a b:List zau) (x:zau) (i j:Int) (hi:i=a.length) (hj:j=a.length+1) (hb:(a++x::b).length<2 ^ 40) :
 zan Tryz.prog 117 [.own 1000,i64 i,i64 j] (lk .free [(1000,.live (.row 110 3 ((a++x::b).map zau.row)))])
  (.own 0) (lk .free [(1000,.dead),(0,.live (.row 110 3 ((a++b).map zau.row)))]):=by
 subst hi hj;have h:=xgh (a++x::b) a.length (a.length+1) zz0 zz5 hb
 rwa [zy130,show (a++x::b).drop (a.length+1)=b by rw [<- zy144,zy105];rfl,zy124] at h
theorem yeh {inp out:List zau} (a b:List zau) (x:zau) (i j:Int) (h1:inp=a++x::b) (h2:out=a++b) (hi:i=a.length) (hj:j=a.length+1) (hb:inp.length<2 ^ 40) :
 zan Tryz.prog 117 [.own 1000,i64 i,i64 j] (lk .free [(1000,.live (.row 110 3 (inp.map zau.row)))])
  (.own 0) (lk .free [(1000,.dead),(0,.live (.row 110 3 (out.map zau.row)))]):=by
 subst h1 h2;exact yqb a b x i j hi hj hb
theorem xbo {N M:Nat} (l:zem) (x:Step) (h:LI N M l) (hN:N+1<=2 ^ 20) (hM:M+120<=2000000) (hx:x.message.data.length<2 ^ 38) :
 zan Tryz.prog 65 [l.hv,x.hv] zad (.tup [.agg (lnC (doS l x).1.sender (doS l x).1.receiver (.own 0)),(doS l x).2.hv]) (lk .free [(0,zhh (doS l x).1.way)]):=by
 have hway:=h.way;have hby:=h.bytes;generalize hT:doS l x=T;rw [doS] at hT;refine zaq mixed Tryz.func65 zz4 [] (fun _=>.inl rfl) ?_;(conv=>whnf)
 (refine zat [(0,20)]  ?_;(conv=>whnf);refine dO (yxt l h.snd.fit (h.rcv.fit h.small) zz0 (fun p hp=>by have:=hby p hp;omega)) ?_)
 by_cases c1:x.kind=1
 case pos =>
  rw [zy1 c1] at hT;rw [show (x.kind==1)=true from zy13.2 c1];(conv=>whnf);have ps:=Snd.yxz l.sender x.message h.snd.fit hx;by_cases e1:Snd.zff l.sender x.message=0
  case pos =>
   rw [zy1 e1] at hT;subst hT;rw [Snd.zqk e1] at ps
   (refine cP ?_;refine dL ps ?_)
   repeat refine sG ?_
   have hy:=(show LI (N+1) M {l with sender:=Snd.zht l.sender x.message} from ⟨Snd.zwt h.snd e1 hN,h.rcv,h.small,h.way,h.bytes⟩)
   have hyw:=Snd.zdf hy.snd.cfg;have hyp:=hy.snd.npaths
   (refine cP ?_;refine dL (Snd.zmx (({l with sender:=Snd.zht l.sender x.message}:zem)).sender hy.snd.pf zz135 zz0) ?_)
   repeat refine sG ?_
   (refine zaf [] [(1000,6),(1001,20)] [(0,950)] ?_;(conv=>whnf);refine dG (zlj (Snd.zjp (({l with sender:=Snd.zht l.sender x.message}:zem)).sender).1 (({l with sender:=Snd.zht l.sender x.message}:zem)).receiver (({l with sender:=Snd.zht l.sender x.message}:zem)).way (Snd.zjp (({l with sender:=Snd.zht l.sender x.message}:zem)).sender).2 (Snd.zhj hy.snd)) ?_ ⟨rfl,rfl,rfl,⟨zz1,⟨zz1,trivial⟩⟩,⟨⟨rfl,rfl⟩,trivial⟩,rfl,rfl,rfl⟩)
   exact yy40
  case neg =>
   rw [zy0 e1] at hT;subst hT;rw [Snd.zjs rfl e1] at ps
   (refine cP ?_;refine dL ps ?_)
   rw [show (Snd.zff l.sender x.message != 0)=true from zy76.2 e1];(conv=>whnf);exact yy22
 case neg =>
  rw [zy0 c1] at hT;rw [show (x.kind==1)=false from zy4.2 c1];(conv=>whnf)
  repeat refine sG ?_
  by_cases c2:x.kind=2\/x.kind=3\/x.kind=4
  case neg =>
   rw [zy0 c2] at hT;have c2:=not_or.1 c2;have c3:=not_or.1 c2.2;rw [show (x.kind==2)=false from zy4.2 c2.1];(conv=>whnf)
   repeat refine sG ?_
   rw [show (x.kind==3)=false from zy4.2 c3.1];(conv=>whnf)
   repeat refine sG ?_
   rw [show (x.kind==4)=false from zy4.2 c3.2];(conv=>whnf)
   repeat refine sG ?_
   by_cases c5:x.kind=5
   case pos =>
    rw [zy1 c5] at hT;subst hT;rw [show (x.kind==5)=true from zy13.2 c5];(conv=>whnf)
    repeat refine sG ?_
    (refine cP ?_;refine dL (Snd.yye l.sender h.snd.fit) ?_)
    repeat refine sG ?_
    have hy:=(show LI N M {l with sender:=Snd.tick l.sender} from ⟨Snd.zxk h.snd,h.rcv,h.small,h.way,h.bytes⟩)
    have hyw:=Snd.zdf hy.snd.cfg;have hyp:=hy.snd.npaths
    (refine cP ?_;refine dL (Snd.zmx (({l with sender:=Snd.tick l.sender}:zem)).sender hy.snd.pf zz135 zz0) ?_)
    repeat refine sG ?_
    (refine zaf [] [(1000,6),(1001,20)] [(0,950)] ?_;(conv=>whnf);refine dG (zlj (Snd.zjp (({l with sender:=Snd.tick l.sender}:zem)).sender).1 (({l with sender:=Snd.tick l.sender}:zem)).receiver (({l with sender:=Snd.tick l.sender}:zem)).way (Snd.zjp (({l with sender:=Snd.tick l.sender}:zem)).sender).2 (Snd.zhj hy.snd)) ?_ ⟨rfl,rfl,rfl,⟨zz1,⟨zz1,trivial⟩⟩,⟨⟨rfl,rfl⟩,trivial⟩,rfl,rfl,rfl⟩)
    exact yy40
   case neg =>
    rw [zy0 c5] at hT;subst hT;rw [show (x.kind==5)=false from zy4.2 c5];(conv=>whnf);exact yy22
  case pos =>
   rw [zy1 c2] at hT;have c6:x.kind=2\/x.kind≠2/\(x.kind=3\/x.kind≠3/\x.kind=4):=by omega
   rcases c6 with c6 | ⟨c8,c6 | ⟨c7,c6⟩⟩
   . rw [show (x.kind==2)=true from zy13.2 c6]
     conv=>whnf
     repeat refine sG ?_
     by_cases n0:x.n<0
     case pos =>
      rw [zy1 n0] at hT;subst hT;rw [show decide (x.n<0)=true from zy9 n0];(conv=>whnf);exact yy22
     case neg =>
     rw [zy0 n0] at hT;rw [show decide (x.n<0)=false from zy11 n0];(conv=>whnf);cases hp:l.way[x.n.toNat]? with
     | none =>
      rw [hp] at hT;dsimp only at hT;subst hT;have hge:=zy85.1 hp;rw [show decide (x.n>=((l.way.map zau.row).length:Int))=true from zy9 (by rw [zy2];omega)];(conv=>whnf);exact yy22
     | some p =>
     rw [hp] at hT;dsimp only at hT;have hlt:=(zy8.1 hp).1;have hpb:=hby p (zy20 hp);have hsp:l.way=l.way.take x.n.toNat++p::l.way.drop (x.n.toNat+1):=by
      obtain ⟨hk,e⟩:=zy8.1 hp;rw [<- e,zy106,zy32]
     have hsl:(l.way.take x.n.toNat).length=x.n.toNat:=by simp;omega
     have her:l.way.eraseIdx x.n.toNat=l.way.take x.n.toNat++l.way.drop (x.n.toNat+1):=zy61 _ _;rw [show decide (x.n>=((l.way.map zau.row).length:Int))=false from zy11 (by rw [zy2];omega)];(conv=>whnf)
     repeat refine sG ?_
     refine zaa ⟨by omega,by rw [zy2];omega⟩ (zw ?_);refine Snd.zam hp zz0 (zw ?_);rw [zy0 (by omega),zy1 c6] at hT;rw [show (x.kind==4)=false from zy4.2 (by omega)];(conv=>whnf)
     repeat refine sG ?_
     refine zao (z:=x.n+1) (zbt zz0 zz0) (zw ?_)
     (refine zaf [] [(1000,20)] [(0,930)] ?_;(conv=>whnf);refine dG (yeh (l.way.take x.n.toNat) (l.way.drop (x.n.toNat+1)) p x.n (x.n+1) hsp rfl zz0 zz0 zz0) ?_)
     rw [show (x.kind==2)=true from zy13.2 c6];(conv=>whnf);subst hT;have hli:LI N M {l with way:=l.way.eraseIdx x.n.toNat}:=⟨h.snd,h.rcv,h.small,by show (l.way.eraseIdx _).length<=40;rw [zy73];split<;>omega,fun q hq=>hby q (zy63 hq)⟩
     (refine zaf [] [(1000,6),(1001,930)] [(0,940)] ?_;(conv=>whnf);refine dG (yrj {l with way:=l.way.eraseIdx x.n.toNat} p hli hM hpb) ?_ ⟨rfl,rfl,rfl,⟨zz1,⟨⟨rfl,_,rfl,.inl ⟨rfl,(zar (by rw [her]))⟩⟩,trivial⟩⟩,⟨⟨rfl,rfl⟩,trivial⟩,rfl,rfl,rfl⟩)
     repeat refine sG ?_
     have hy:=(zvd hli hpb hM)
     have hyw:=Snd.zdf hy.snd.cfg;have hyp:=hy.snd.npaths
     (refine cP ?_;refine dL (Snd.zmx ((zgz {l with way:=l.way.eraseIdx x.n.toNat} p)).sender hy.snd.pf zz135 zz0) ?_)
     repeat refine sG ?_
     (refine zaf [] [(1000,6),(1001,940)] [(0,950)] ?_;(conv=>whnf);refine dG (zlj (Snd.zjp ((zgz {l with way:=l.way.eraseIdx x.n.toNat} p)).sender).1 ((zgz {l with way:=l.way.eraseIdx x.n.toNat} p)).receiver ((zgz {l with way:=l.way.eraseIdx x.n.toNat} p)).way (Snd.zjp ((zgz {l with way:=l.way.eraseIdx x.n.toNat} p)).sender).2 (Snd.zhj hy.snd)) ?_ ⟨rfl,rfl,rfl,⟨zz1,⟨zz1,trivial⟩⟩,⟨⟨rfl,rfl⟩,trivial⟩,rfl,rfl,rfl⟩)
     exact yy40
   . rw [show (x.kind==2)=false from zy4.2 c8]
     conv=>whnf
     repeat refine sG ?_
     rw [show (x.kind==3)=true from zy13.2 c6];(conv=>whnf)
     repeat refine sG ?_
     by_cases n0:x.n<0
     case pos =>
      rw [zy1 n0] at hT;subst hT;rw [show decide (x.n<0)=true from zy9 n0];(conv=>whnf);exact yy22
     case neg =>
     rw [zy0 n0] at hT;rw [show decide (x.n<0)=false from zy11 n0];(conv=>whnf);cases hp:l.way[x.n.toNat]? with
     | none =>
      rw [hp] at hT;dsimp only at hT;subst hT;have hge:=zy85.1 hp;rw [show decide (x.n>=((l.way.map zau.row).length:Int))=true from zy9 (by rw [zy2];omega)];(conv=>whnf);exact yy22
     | some p =>
     rw [hp] at hT;dsimp only at hT;have hlt:=(zy8.1 hp).1;have hpb:=hby p (zy20 hp);have hsp:l.way=l.way.take x.n.toNat++p::l.way.drop (x.n.toNat+1):=by
      obtain ⟨hk,e⟩:=zy8.1 hp;rw [<- e,zy106,zy32]
     have hsl:(l.way.take x.n.toNat).length=x.n.toNat:=by simp;omega
     have her:l.way.eraseIdx x.n.toNat=l.way.take x.n.toNat++l.way.drop (x.n.toNat+1):=zy61 _ _;rw [show decide (x.n>=((l.way.map zau.row).length:Int))=false from zy11 (by rw [zy2];omega)];(conv=>whnf)
     repeat refine sG ?_
     refine zaa ⟨by omega,by rw [zy2];omega⟩ (zw ?_);refine Snd.zam hp zz0 (zw ?_);rw [zy0 (by omega),zy0 c8] at hT;rw [show (x.kind==4)=false from zy4.2 (by omega)];(conv=>whnf)
     repeat refine sG ?_
     refine zao (z:=x.n+1) (zbt zz0 zz0) (zw ?_)
     (refine zaf [] [(1000,20)] [(0,930)] ?_;(conv=>whnf);refine dG (yeh (l.way.take x.n.toNat) (l.way.drop (x.n.toNat+1)) p x.n (x.n+1) hsp rfl zz0 zz0 zz0) ?_)
     rw [show (x.kind==2)=false from zy4.2 c8];(conv=>whnf)
     repeat refine sG ?_
     subst hT;have hli:LI N M {l with way:=l.way.eraseIdx x.n.toNat}:=⟨h.snd,h.rcv,h.small,by show (l.way.eraseIdx _).length<=40;rw [zy73];split<;>omega,fun q hq=>hby q (zy63 hq)⟩
     have hy:=hli;have hyw:=Snd.zdf hy.snd.cfg;have hyp:=hy.snd.npaths
     (refine cP ?_;refine dL (Snd.zmx (({l with way:=l.way.eraseIdx x.n.toNat}:zem)).sender hy.snd.pf zz135 zz0) ?_)
     repeat refine sG ?_
     (refine zaf [] [(1000,6),(1001,930)] [(0,950)] ?_;(conv=>whnf);refine dG (zlj (Snd.zjp (({l with way:=l.way.eraseIdx x.n.toNat}:zem)).sender).1 (({l with way:=l.way.eraseIdx x.n.toNat}:zem)).receiver (({l with way:=l.way.eraseIdx x.n.toNat}:zem)).way (Snd.zjp (({l with way:=l.way.eraseIdx x.n.toNat}:zem)).sender).2 (Snd.zhj hy.snd)) ?_ ⟨rfl,rfl,rfl,⟨zz1,⟨⟨rfl,_,rfl,.inl ⟨rfl,(zar (by rw [her]))⟩⟩,trivial⟩⟩,⟨⟨rfl,rfl⟩,trivial⟩,rfl,rfl,rfl⟩)
     exact yy40
   . rw [show (x.kind==2)=false from zy4.2 c8]
     conv=>whnf
     repeat refine sG ?_
     rw [show (x.kind==3)=false from zy4.2 c7];(conv=>whnf)
     repeat refine sG ?_
     rw [show (x.kind==4)=true from zy13.2 c6];(conv=>whnf)
     repeat refine sG ?_
     by_cases n0:x.n<0
     case pos =>
      rw [zy1 n0] at hT;subst hT;rw [show decide (x.n<0)=true from zy9 n0];(conv=>whnf);exact yy22
     case neg =>
     rw [zy0 n0] at hT;rw [show decide (x.n<0)=false from zy11 n0];(conv=>whnf);cases hp:l.way[x.n.toNat]? with
     | none =>
      rw [hp] at hT;dsimp only at hT;subst hT;have hge:=zy85.1 hp;rw [show decide (x.n>=((l.way.map zau.row).length:Int))=true from zy9 (by rw [zy2];omega)];(conv=>whnf);exact yy22
     | some p =>
     rw [hp] at hT;dsimp only at hT;have hlt:=(zy8.1 hp).1;have hpb:=hby p (zy20 hp);have hsp:l.way=l.way.take x.n.toNat++p::l.way.drop (x.n.toNat+1):=by
      obtain ⟨hk,e⟩:=zy8.1 hp;rw [<- e,zy106,zy32]
     have hsl:(l.way.take x.n.toNat).length=x.n.toNat:=by simp;omega
     have her:l.way.eraseIdx x.n.toNat=l.way.take x.n.toNat++l.way.drop (x.n.toNat+1):=zy61 _ _;rw [show decide (x.n>=((l.way.map zau.row).length:Int))=false from zy11 (by rw [zy2];omega)];(conv=>whnf)
     repeat refine sG ?_
     refine zaa ⟨by omega,by rw [zy2];omega⟩ (zw ?_);refine Snd.zam hp zz0 (zw ?_);rw [zy1 c6] at hT;rw [show (x.kind==4)=true from zy13.2 c6];(conv=>whnf)
     (refine zat [(0,935)]  ?_;(conv=>whnf);refine dO (ype [p] zz5 (fun q hq=>by rw [zy23] at hq;subst hq;omega)) ?_)
     (refine zaf [false,true] [(1000,6),(1001,20)] [(0,940)] ?_;(conv=>whnf);refine dG (zlj l.sender l.receiver l.way [p] zz5) ?_)
     repeat refine sG ?_
     subst hT;have yzo:LI N M {l with way:=zmb l.way [p]}:=yhc h fun q hq=>by rw [zy23] at hq;subst hq;exact hpb
     have hy:=yzo;have hyw:=Snd.zdf hy.snd.cfg;have hyp:=hy.snd.npaths
     (refine cP ?_;refine dL (Snd.zmx (({l with way:=zmb l.way [p]}:zem)).sender hy.snd.pf zz135 zz0) ?_)
     repeat refine sG ?_
     (refine zaf [] [(1000,6),(1001,940)] [(0,950)] ?_;(conv=>whnf);refine dG (zlj (Snd.zjp (({l with way:=zmb l.way [p]}:zem)).sender).1 (({l with way:=zmb l.way [p]}:zem)).receiver (({l with way:=zmb l.way [p]}:zem)).way (Snd.zjp (({l with way:=zmb l.way [p]}:zem)).sender).2 (Snd.zhj hy.snd)) ?_ ⟨rfl,rfl,rfl,⟨zz1,⟨zz1,trivial⟩⟩,⟨⟨rfl,rfl⟩,trivial⟩,rfl,rfl,rfl⟩)
     exact yy40
theorem xfj {N M:Nat} (l:zem) (x:Step) (h:LI N M l) (hN:N+1<=2 ^ 20) (hM:M+120<=2000000) (hx:x.message.data.length<2 ^ 38) :
 zan Tryz.prog 65 [l.hv,x.hv] zad (.tup [(doS l x).1.hv,(doS l x).2.hv]) zad:=by
 refine zcn Tryz.func65 (xbo l x h hN hM hx) ?_;generalize doS l x=d;(conv=>whnf)
 rfl
end Ln
namespace Ln
open Ser
abbrev xfc (l:List Answer):zai:=.live (.row 81 2 (l.map Answer.row))
abbrev yyj (l:List Step):HV:=.p (.sl 7 (l.map Step.row))
abbrev lnL (l:zem):zai:=.live (.cells 40 l.cells)
abbrev xhq:List HV:=[i64 0,i64 0,i64 0,i64 0,i64 0,i64 0,i64 0,i64 0,zeg,i64 0,i64 0,zeg,zeg,zeg,i64 0,i64 0,i64 0,zeg,zeg,zbj false,i64 0,i64 0,i64 0,i64 0,i64 0,i64 0,i64 0,i64 0,i64 0,zeg,zeg,zeg,zeg,zeg]
def zle (c:Config) (l:List Step):zem×List Answer×Int :=
 if Snd.zjf c≠0 then (noL,[],Snd.zjf c) else if l.length>200 then (noL,[],5) else ((zot (zmp c) l).1,(zot (zmp c) l).2,0)
theorem yhb (l:zem) (A:List Step) (x:Step):zot l (A++[x])=((doS (zot l A).1 x).1,(zot l A).2++[(doS (zot l A).1 x).2]):=by
 rw [yop];rfl
theorem yig (c:Config) (l:List Step) (h:Snd.zjf c≠0\/l.length>200) :
 zan Tryz.prog 21 [c.hv,yyj l] zad (.tup [(zle c l).1.hv,.p (.sl 2 ((zle c l).2.1.map Answer.row)),i64 (zle c l).2.2]) zad:=by
 refine zal mixed Tryz.func21 zz4 ?_;generalize hT:zle c l=T;rw [zle] at hT;(conv=>whnf);have pn:=yib c;by_cases c1:Snd.zjf c=0
 case neg =>
  rw [zy1 c1] at hT;subst hT;rw [show ztr c=(noL,Snd.zjf c) from zy0 c1] at pn
  (refine cP ?_;refine dL pn ?_)
  rw [show (Snd.zjf c != 0)=true from zy76.2 c1];(conv=>whnf)
  try rfl
 case pos =>
  rw [zy0 (fun h=>h c1)] at hT;rw [show ztr c=(zmp c,0) from zy1 c1] at pn
  (refine cP ?_;refine dL pn ?_)
  repeat refine sG ?_
  have c2:l.length>200:=h.resolve_left (fun h=>h c1);rw [zy1 c2] at hT;subst hT;refine zac zz3 (zw ?_)
  try rfl
theorem yrp (c:Config) (l:List Step) (c1:Snd.zjf c=0) (c2:¬ l.length>200) (hb:∀ x∈l,x.message.data.length<2 ^ 38) :
 zan Tryz.prog 21 [c.hv,yyj l] zad (.tup [(zle c l).1.hv,.own 0,i64 (zle c l).2.2]) (lk .free [(0,xfc (zle c l).2.1)]):=by
 refine zaq mixed Tryz.func21 zz4 [] (fun _=>.inl rfl) ?_;generalize hT:zle c l=T;rw [zle,zy0 (fun h=>h c1),zy0 c2] at hT;(conv=>whnf);have pn:=yib c;rw [show ztr c=(zmp c,0) from zy1 c1] at pn
 (refine cP ?_;refine dL pn ?_)
 repeat refine sG ?_
 refine zab zz3 (zw ?_)
 repeat refine sG ?_
 refine ⟨{x:(zem×List Answer)×List Step×List Step // l=x.2.1++x.2.2/\zot (zmp c) x.2.1=x.1/\LI x.2.1.length (120*x.2.1.length) x.1.1},fun | ⟨((y,az),A,B),_⟩=>hs 47 [(4,.ptr 4 0),(7,.ptr 7 0),(9,.own 900),(27,yyj l),(28,i64 l.length),(29,i64 A.length)] [(4,.live (.cells 40 xhq)),(7,lnL y),(900,xfc az)],fun x=>x.1.2.2.length,⟨((zmp c,[]),[],l),rfl,rfl,ybx c1⟩,?_,?_⟩
 . exact (zbe [(4,some 4),(7,some 7),(900,none)])
 rintro ⟨⟨⟨y,az⟩,A,B⟩,k1,k2,k3⟩;dsimp only at k1 k2 k3;(conv=>whnf);cases B with
 | cons x B =>
  have hz:=zay k1;have hxd:=hb x (zgm k1);have hnx:=yhb (zmp c) A x;rw [k2] at hnx;dsimp only at hnx;have hli:=yme k3 x zz0 zz0;have pd:=xfj y x k3 zz0 zz0 hxd;have hal:az.length=A.length:=by have:=zqi A (zmp c);rw [k2] at this;exact this
  generalize doS y x=D at hnx hli pd;obtain ⟨z,a⟩:=D;dsimp only at hnx hli;refine sT ?_;refine zaj k1 rfl (zw ?_)
  (refine cP ?_;refine dL pd ?_)
  refine zaa (c:=((az.map Answer.row).length+1)*16<=140737488355328) zz6 (zw ?_);refine sF ?_;exact ⟨⟨((z,az++[a]),A++[x],B),zae k1,hnx,by rw [zy10,zy69,show 120*(A.length+1)=120*A.length+120 by omega];exact hli⟩,(zax [(4,some 4),(7,some 7),(900,some 43)] zz75),by simp⟩
 | nil =>
  have hz:=zbk k1;rw [zy5] at k1;rw [<- k1] at k2;rw [k2] at hT;subst hT;refine sN ?_;exact zap [(0,some 900)] rfl rfl trivial rfl rfl ⟨⟨rfl,.inl ⟨900,rfl,rfl⟩⟩,trivial⟩
theorem yxu (c:Config) (l:List Step) (hb:∀ x∈l,x.message.data.length<2 ^ 38) :
 zan Tryz.prog 21 [c.hv,yyj l] zad (.tup [(zle c l).1.hv,.p (.sl 2 ((zle c l).2.1.map Answer.row)),i64 (zle c l).2.2]) zad:=by
 by_cases h:Snd.zjf c≠0\/l.length>200
 . exact yig c l h
 have h:=not_or.1 h;refine zcn Tryz.func21 (yrp c l (Decidable.not_not.1 h.1) h.2 hb) ?_;generalize zle c l=d;(conv=>whnf)
 rfl
end Ln
namespace Snd
open Ser
end Snd
namespace Ln
open Ser Snd
end Ln
namespace Rcv
open Srt Jn Ser
section
variable {C X Y:List Chunk} {M:Nat->List (List UInt8)} {r:Receiver} {T:Nat->Nat}
end
end Rcv
namespace Sch
section
variable {α:Type} {p:α->Bool}
end
end Sch
namespace Gh
open Ser Srt Jn
section
variable {c:Config} {L:List Message}
end
end Gh
namespace Gh
open Ser Snd
section
variable {c:Config} {L:List Message} {A:Nat->Prop} {s:zag}
end
end Gh
namespace Pck
open Chk
end Pck
namespace Gh
open Ser Snd
section
variable {c:Config} {L:List Message} {A:Nat->Prop} {s:zag} {N:Nat}
end
end Gh
namespace Gh
open Ser Snd
section
variable {c:Config} {L:List Message} {A:Nat->Prop} {s:zag} {N:Nat}
end
end Gh
namespace Gh
open Ser Snd
section
variable {c:Config} {L:List Message} {A F:Nat->Prop} {s:zag} {N:Nat}
end
end Gh
namespace Gh
open Ser Srt Jn Rcv
section
variable {c:Config} {L:List Message} {A F:Nat->Prop} {D:List Nat} {r:Receiver}
end
end Gh
namespace Gh
open Ser Srt Jn Rcv
section
variable {c:Config} {L:List Message} {A F:Nat->Prop} {D:List Nat} {r:Receiver}
end
end Gh
namespace Gh
open Ser Snd Ln
section
variable {N M:Nat} {c:Config} {L:List Message} {A F:Nat->Prop} {D:List Nat} {l:zem}
def yyn (x:Step) (a:Answer):List Message:=if x.kind=1/\a.err=0 then [x.message] else []
def zkv:List Step->List Answer->List Message
 | x::l,a::b=>yyn x a++zkv l b
 | _,_=>[]
end
end Gh
namespace Gh
open Ser Snd Ln
theorem yvl (l:List UInt8):∀ (k i:Nat) (r:List UInt8),k=l.length-i->ByteArray.toList.loop (⟨l.toArray⟩:ByteArray) i r=r.reverse++l.drop i
 | 0,i,r,h=>by
  rw [ByteArray.toList.loop,zy0 (by show ¬ i<l.toArray.size;simp;omega),zy19 (by omega),zy5]
 | k+1,i,r,h=>by
  have hi:i<l.length:=by omega
  rw [ByteArray.toList.loop,zy1 (by show i<l.toArray.size;simpa using hi),yvl l k (i+1) _ (by omega),zy18 hi];have:(⟨l.toArray⟩:ByteArray).get! i=l[i]:=by
   show l.toArray[i]! = l[i];simp [hi]
  rw [this];simp
theorem toList_mk (l:List UInt8):(⟨l.toArray⟩:ByteArray).toList=l:=by
 rw [ByteArray.toList,yvl l (l.length-0) 0 [] rfl];simp
theorem yyk (l m:List UInt8):((⟨l.toArray⟩:ByteArray).toList==(⟨m.toArray⟩:ByteArray).toList)=decide (l=m):=by
 rw [toList_mk,toList_mk,zy110];simp
def lkp:List (Int×Int)->Int->Int
 | [],_=>0
 | (k,v)::r,s=>if s=k then v else lkp r s
def upd:List (Int×Int)->Int->Int->List (Int×Int)
 | [],k,v=>[(k,v)]
 | (k',v')::r,k,v=>if k=k' then (k,v)::r else (k',v')::upd r k v
theorem zvu (k v s:Int):∀ E:List (Int×Int),lkp (upd E k v) s=if s=k then v else lkp E s
 | []=>rfl
 | (k',v')::r=>by
  rw [upd];by_cases e:k=k'
  . rw [zy1 e,lkp,lkp,<- e]
    by_cases e2:s=k
    . rw [zy1 e2,zy1 e2]
    . rw [zy0 e2,zy0 e2,zy0 e2]
  . rw [zy0 e,lkp,lkp,zvu k v s r]
    by_cases e2:s=k'
    . rw [zy1 e2,zy1 e2,zy0 (by omega)]
    . rw [zy0 e2,zy0 e2]
def yzi (p:Int×Int):Value×List PV:=(.int .i64 p.1,[pi p.2])
theorem yeu (s:Int):∀ E:List (Int×Int),(zrh (E.map yzi) (.int .i64 s)=none/\lkp E s=0)\/zrh (E.map yzi) (.int .i64 s)=some [pi (lkp E s)]
 | []=>.inl ⟨rfl,rfl⟩
 | (k,v)::r=>by
  rw [zy29,yzi,zrh,lkp];by_cases e:s=k
  . subst e;right;simp [zlw]
  . have:zlw (.int .i64 s) (.int .i64 k)=false:=by simpa [zlw] using e
    rw [this,zy0 e];exact yeu s r
theorem ycg (s v:Int):∀ E:List (Int×Int),ywo (E.map yzi) (.int .i64 s) [pi v]=(upd E s v).map yzi
 | []=>rfl
 | (k',v')::r=>by
  rw [zy29,show yzi (k',v')=(.int .i64 k',[pi v']) from rfl,ywo,ycg s v r,upd];by_cases e:s=k'
  . subst e;simp [zlw,yzi]
  . have:zlw (.int .i64 s) (.int .i64 k')=false:=by simpa [zlw] using e
    rw [this,zy0 e];rfl
section
variable {T:List Message} {lg:List zbf} {D:List Nat} {A A':List zbf} {a:zbf} {U:List Nat} {B:List Bool} {E:List (Int×Int)}
end
theorem zsl (x:Step) (a:Answer):∀ (A:List Step) (az:List Answer),az[A.length]?=some a->zkv (A++[x]) az=zkv A az++yyn x a
 | [],[],h=>by simp at h
 | [],b::az,h=>by
  simp only [zy12,List.getElem?_cons_zero,Option.some.injEq] at h;subst h;show yyn x b++zkv [] az=[]++yyn x b;cases az<;>simp [zkv]
 | y::A,[],h=>by simp at h
 | y::A,b::az,h=>by
  rw [zy40,zkv,zkv,zsl x a A az (by simpa using h),zy28]
theorem zqy:∀ (l:List Step) (az:List Answer),(zkv l az).length<=l.length
 | [],az=>by cases az<;>simp [zkv]
 | x::l,[]=>by simp [zkv]
 | x::l,a::az=>by
  have:=zqy l az;rw [zkv,zy10,zy6];unfold yyn;split<;>simp<;>omega
end Gh
namespace Gh
open Ser Snd Ln
abbrev xil (l:List Answer):HV:=.p (.sl 2 (l.map Answer.row))
abbrev msgs (l:List Message):HV:=.p (.sl 5 (l.map Message.row))
abbrev xhk (l:List Message):zai:=.live (.row 48 5 (l.map Message.row))
theorem yln (l:List Step) (az:List Answer) (hl:az.length=l.length) (hb:l.length<2 ^ 38):zan Tryz.prog 52 [yyj l,xil az] zad (msgs (zkv l az)) zad:=by
 refine zal mixed Tryz.func52 zz4 ?_;(conv=>whnf);refine ⟨{x:List Step×List Step // l=x.1++x.2},fun | ⟨(A,B),_⟩=>hs 39 [(1,xil az),(5,.own 900),(8,yyj l),(9,i64 l.length),(10,i64 A.length)] [(900,xhk (zkv A az))],fun x=>x.1.2.length,⟨([],l),rfl⟩,?_,?_⟩
 . exact (zax [(900,none)] zz98)
 rintro ⟨⟨A,B⟩,h⟩;dsimp only at h;(conv=>whnf);cases B with
 | cons x B =>
  have hz:=zay h;obtain ⟨a,ha⟩:∃ a,az[A.length]?=some a:=⟨_,zy3 zz0⟩
  have hsn:=zsl x a A az ha;have hlen:=zqy A az;refine sT ?_;refine zaj h rfl (zw ?_)
  (try refine sG ?_)
  by_cases c1:x.kind=1
  case neg =>
   rw [yyn,zy0 (fun h=>c1 h.1),zy5] at hsn;refine zab (zy4.2 c1) (zw ?_)
   (try refine sG ?_)
   refine sF ?_;exact ⟨⟨(A++[x],B),zae h⟩,(zax [(900,some 900)] zz9),by simp⟩
  refine zac (zy13.2 c1) (zw ?_);refine zac (zy9 zz6) (zw ?_);refine zam ha rfl (zw ?_);by_cases c2:a.err=0
  case neg =>
   rw [yyn,zy0 (fun h=>c2 h.2),zy5] at hsn;refine zab (zy4.2 c2) (zw ?_)
   (try refine sG ?_)
   refine sF ?_;exact ⟨⟨(A++[x],B),zae h⟩,(zax [(900,some 900)] zz9),by simp⟩
  rw [yyn,zy1 ⟨c1,c2⟩] at hsn;refine zac (zy13.2 c2) (zw ?_);refine zaa (c:=(((zkv A az).map Message.row).length+1)*56<=140737488355328) zz6 (zw ?_);refine sF ?_;exact ⟨⟨(A++[x],B),zae h⟩,(zax [(900,some 36)] zz74),by simp⟩
 | nil =>
  have hz:=zbk h;rw [zy5] at h;subst h
  ((refine yun ?_;conv=>whnf);try refine sG ?_)
abbrev xiq (E:List (Int×Int)):zai:=.live (.map 4 false (E.map yzi))
end Gh
namespace Gh
open Ser Snd Ln
def zlt (c:Config) (l:List Step):List Message×Int:=if Snd.zjf c≠0 then ([],Snd.zjf c) else if l.length>200 then ([],5) else (zkv l (zot (zmp c) l).2,0)
theorem ysj (c:Config) (l:List Step) (hb:∀ x∈l,x.message.data.length<2 ^ 38) (hl:l.length<2 ^ 38):zan Tryz.prog 58 [c.hv,yyj l] zad (.tup [msgs (zlt c l).1,i64 (zlt c l).2]) zad:=by
 refine zal mixed Tryz.func58 zz4 ?_;(conv=>whnf);have pk:=yxu c l hb;by_cases c3:Snd.zjf c=0
 case neg =>
  have e1:zle c l=(noL,[],Snd.zjf c):=zy1 c3;rw [e1] at pk;rw [show zlt c l=([],Snd.zjf c) from zy1 c3];dsimp only at pk;generalize Snd.zjf c=e at c3 pk
  (refine cP ?_;refine dL pk ?_)
  refine zac (zy76.2 c3) (zw ?_)
  try rfl
 by_cases c2:l.length>200
 case pos =>
  have e1:zle c l=(noL,[],5):=by rw [zle,zy0 (fun h=>h c3),zy1 c2]
  rw [e1] at pk;rw [show zlt c l=([],5) by rw [zlt,zy0 (fun h=>h c3),zy1 c2]];dsimp only at pk
  (refine cP ?_;refine dL pk ?_)
  try rfl
 have e1:zle c l=((zot (zmp c) l).1,(zot (zmp c) l).2,0):=by rw [zle,zy0 (fun h=>h c3),zy0 c2]
 rw [e1] at pk;rw [show zlt c l=(zkv l (zot (zmp c) l).2,0) by rw [zlt,zy0 (fun h=>h c3),zy0 c2]];have hpl:=zqi l (zmp c);dsimp only at pk;generalize zot (zmp c) l=P at pk hpl;obtain ⟨y,az⟩:=P;dsimp only at pk hpl
 (refine cP ?_;refine dL pk ?_)
 (try refine sG ?_)
 refine ⟨{x:List Step×List Step // l=x.1++x.2},fun | ⟨(A,B),_⟩=>hs 53 [(7,xil az),(9,.own 900),(23,yyj l),(24,i64 l.length),(25,i64 A.length)] [(900,xhk (zkv A az))],fun x=>x.1.2.length,⟨([],l),rfl⟩,?_,?_⟩
 . exact (zax [(900,none)] zz98)
 rintro ⟨⟨A,B⟩,h⟩;dsimp only at h;refine zbx fun Q hQ=>?_
 (conv=>whnf);cases B with
 | cons x B =>
  have hz:=zay h;have hxd:=hb x (zgm h);obtain ⟨a,ha⟩:∃ a,az[A.length]?=some a:=⟨_,zy3 zz0⟩
  have hsn:=zsl x a A az ha;have hlen:=zqy A az;refine sT ?_;refine zaj h rfl (zw ?_)
  (try refine sG ?_)
  by_cases c1:x.kind=1
  case neg =>
   rw [yyn,zy0 (fun h=>c1 h.1),zy5] at hsn;refine zab (zy4.2 c1) (zw ?_);exact yy135
  refine zac (zy13.2 c1) (zw ?_);refine zam ha rfl (zw ?_);by_cases c4:a.err=0
  case neg =>
   rw [yyn,zy0 (fun h=>c4 h.2),zy5] at hsn;refine zab (zy4.2 c4) (zw ?_);exact yy135
  rw [yyn,zy1 ⟨c1,c4⟩] at hsn;refine zac (zy13.2 c4) (zw ?_)
  (refine zat [(0,45)]  ?_;(conv=>whnf);refine dO (Cl.zdc x.message.data zz0) ?_)
  refine zaa (c:=(((zkv A az).map Message.row).length+1)*56<=140737488355328) zz6 (zw ?_);refine sF ?_;refine hQ _ _ ?_;conv=>whnf
  exact ⟨⟨(A++[x],B),zae h⟩,(zax [(900,some 50)] zz74),by simp⟩
 | nil =>
  have hz:=zbk h;rw [zy5] at h;subst h;refine sN ?_;refine hQ _ _ ?_;conv=>whnf
  try rfl
end Gh
namespace Gh
open Ser Snd Ln
def nF (k:Int) (l:List Int):Nat:=(l.filter (·==k)).length
theorem zhx (k x:Int) (l:List Int):nF k (l++[x])=nF k l+if x=k then 1 else 0:=by
 unfold nF;rw [zy45,zy10];by_cases h:x=k
 . rw [zy1 h,zy145 (by simp [h])];rfl
 . rw [zy0 h,zy120 (by simp [h])];rfl
theorem yqs (k:Int) (l:List Int):nF k l<=l.length:=zy27 _ _
abbrev ysq (l:List Int):List HV:=[i64 (nF 1 l),i64 (nF 2 l),i64 (nF 3 l)]
theorem yth {v:Int} (h:v<1\/3<v) (A:List Int):ysq (A++[v])=ysq A:=by
 unfold ysq;rw [zhx,zhx,zhx,zy0 (show ¬ v=1 by omega),zy0 (show ¬ v=2 by omega),zy0 (show ¬ v=3 by omega)];rfl
theorem xcf (A:List Int):ysq (A++[1])=[i64 ((nF 1 A:Int)+1),i64 (nF 2 A),i64 (nF 3 A)]:=by
 unfold ysq;rw [zhx,zhx,zhx,zy1 rfl,zy0 (show ¬ (1:Int)=2 by decide),zy0 (show ¬ (1:Int)=3 by decide)];rfl
theorem xcg (A:List Int):ysq (A++[2])=[i64 (nF 1 A),i64 ((nF 2 A:Int)+1),i64 (nF 3 A)]:=by
 unfold ysq;rw [zhx,zhx,zhx,zy1 rfl,zy0 (show ¬ (2:Int)=1 by decide),zy0 (show ¬ (2:Int)=3 by decide)];rfl
theorem xch (A:List Int):ysq (A++[3])=[i64 (nF 1 A),i64 (nF 2 A),i64 ((nF 3 A:Int)+1)]:=by
 unfold ysq;rw [zhx,zhx,zhx,zy1 rfl,zy0 (show ¬ (3:Int)=1 by decide),zy0 (show ¬ (3:Int)=2 by decide)];rfl
theorem yrg (y:zem) (hf:y.sender.fates.length<2 ^ 60):zan Tryz.prog 61 [y.hv] zad (.agg (ysq y.sender.fates)) zad:=by
 refine zal mixed Tryz.func61 zz4 ?_;(conv=>whnf);refine ⟨{x:List Int×List Int // y.sender.fates=x.1++x.2},fun | ⟨(A,B),_⟩=>hs 28 [(2,.ptr 2 0),(3,.ptr 3 0),(8,ints y.sender.fates),(9,i64 y.sender.fates.length),(10,i64 A.length)] [(2,.live (.cells 103 [i64 0,i64 0,i64 0])),(3,.live (.cells 103 (ysq A)))],fun x=>x.1.2.length,⟨([],y.sender.fates),rfl⟩,?_,?_⟩
 . exact (zbe [(2,some 2),(3,some 3)])
 rintro ⟨⟨A,B⟩,g⟩;dsimp only at g;refine zbx fun Q hQ=>?_
 (conv=>whnf);cases B with
 | nil =>
  have gz:=zbk g;rw [zy5] at g;refine sN ?_;refine hQ _ _ ?_;conv=>whnf
  rw [g]
  try rfl
 | cons v B =>
 have gz:=zay g;have n1:=yqs 1 A;have n2:=yqs 2 A;have n3:=yqs 3 A;refine sT ?_;refine zaj (f:=fun n:Int=>[pi n]) g rfl (zw ?_)
 (try refine sG ?_)
 by_cases c1:v>=1
 case neg =>
  refine zab (zy11 c1) (zw ?_);exact yy130
 refine zac (zy9 c1) ?_;conv=>whnf
 by_cases c2:v<=3
 case neg =>
  refine zab (zy11 c2) ?_;conv=>whnf
  exact yy130
 refine zac (zy9 c2) ?_;conv=>whnf
 obtain rfl | hv:=(show v=1\/(v=2\/v=3) by omega)
 case inl =>
  (conv=>whnf);refine zao (z:=1-1) (zbt zz4 zz4) (zw ?_);refine ⟨0,by decide,by decide,zw ?_⟩;refine sF ?_;refine ⟨0,by decide,by decide,zw ?_⟩
  (try refine sG ?_)
  refine sF ?_;refine hQ _ _ ?_;conv=>whnf
  exact ⟨⟨(A++[1],B),zae g⟩,(zax [(2,some 2),(3,some 3)] zz104),by simp⟩
 obtain rfl | rfl:=hv
 case inl =>
  (conv=>whnf);refine zao (z:=2-1) (zbt zz4 zz4) (zw ?_);refine ⟨1,by decide,by decide,zw ?_⟩;refine sF ?_;refine ⟨1,by decide,by decide,zw ?_⟩
  (try refine sG ?_)
  refine sF ?_;refine hQ _ _ ?_;conv=>whnf
  exact ⟨⟨(A++[2],B),zae g⟩,(zax [(2,some 2),(3,some 3)] zz105),by simp⟩
 case inr =>
  (conv=>whnf);refine zao (z:=3-1) (zbt zz4 zz4) (zw ?_);refine ⟨2,by decide,by decide,zw ?_⟩;refine sF ?_;refine ⟨2,by decide,by decide,zw ?_⟩
  (try refine sG ?_)
  refine sF ?_;refine hQ _ _ ?_;conv=>whnf
  exact ⟨⟨(A++[3],B),zae g⟩,(zax [(2,some 2),(3,some 3)] zz106),by simp⟩
end Gh
namespace Gh
open Ser Snd Ln
abbrev zky (l:List zbf):HV:=.p (.sl 4 (l.map zbf.row))
theorem zse (a b:List UInt8):zan Tryz.prog 113 [yeb a,yeb b] zad (zbj (decide (a=b))) zad:=by
 refine zal mixed Tryz.func113 zz4 ?_;(conv=>whnf);refine zfu rfl (zw ?_);refine zfu rfl (zw ?_);rw [yyk]
def alk (s:Int) (o:Bool) (d:List UInt8) (t:Int) (p:Bool) (e:List UInt8):Bool:=s==t&&(o==p&&decide (d=e))
theorem zsd (m:Message) (a:zbf):zan Tryz.prog 115 [m.hv,a.hv] zad (zbj (alk m.stream m.ordered m.data a.stream a.ordered a.data)) zad:=by
 refine zal mixed Tryz.func115 zz4 ?_;(conv=>whnf);unfold alk;by_cases c1:m.stream=a.stream
 case neg =>
  refine zab (zy4.2 c1) (zw ?_);rw [show (m.stream==a.stream)=false from zy4.2 c1]
  try rfl
 refine zac (zy13.2 c1) (zw ?_);rw [show (m.stream==a.stream)=true from zy13.2 c1];by_cases c2:m.ordered=a.ordered
 case neg =>
  refine zab (zy4.2 c2) (zw ?_);rw [show (m.ordered==a.ordered)=false from zy4.2 c2]
  try rfl
 refine zac (zy13.2 c2) (zw ?_);rw [show (m.ordered==a.ordered)=true from zy13.2 c2];refine zfu rfl (zw ?_);refine zfu rfl (zw ?_);rw [yyk]
 try rfl
def zoa (m:Message) (l:List zbf):Nat:=(l.filter fun a=>alk a.stream a.ordered a.data m.stream m.ordered m.data).length
theorem zhq (m:Message) (l:List zbf) (a:zbf):zoa m (l++[a])=zoa m l+if alk a.stream a.ordered a.data m.stream m.ordered m.data=true then 1 else 0:=by
 unfold zoa;rw [zy45,zy10];by_cases h:alk a.stream a.ordered a.data m.stream m.ordered m.data=true
 . rw [zy1 h,zy145 (by simpa using h)];rfl
 . rw [zy0 h,zy120 (by simpa using h)];rfl
theorem yld (l:List zbf) (m:Message) (hl:l.length<2 ^ 60):zan Tryz.prog 114 [zky l,m.hv] zad (i64 (zoa m l)) zad:=by
 refine zal mixed Tryz.func114 zz4 ?_;(conv=>whnf);refine ⟨{x:List zbf×List zbf // l=x.1++x.2},fun | ⟨(A,B),_⟩=>hs 37 [(3,.ptr 3 0),(5,i64 (zoa m A)),(8,zky l),(9,i64 l.length),(10,i64 A.length)] [(3,.live (.cells 48 m.cells))],fun x=>x.1.2.length,⟨([],l),rfl⟩,?_,?_⟩
 . exact (zbe [(3,some 3)])
 rintro ⟨⟨A,B⟩,g⟩;dsimp only at g;refine zbx fun Q hQ=>?_
 (conv=>whnf);cases B with
 | nil =>
  have gz:=zbk g;rw [zy5] at g;subst g;refine sN ?_;refine hQ _ _ ?_;conv=>whnf
  try rfl
 | cons a B =>
 have gz:=zay g;have hle:zoa m A<=A.length:=zy27 _ _;refine sT ?_;refine zaj g rfl (zw ?_)
 (try refine sG ?_)
 by_cases c1:a.stream=m.stream
 case neg =>
  refine zab (zy4.2 c1) (zw ?_);have hsn:zoa m (A++[a])=zoa m A:=by rw [zhq,zy0 (by unfold alk;simp [c1])];rfl
  exact yy79
 refine zac (zy13.2 c1) (zw ?_);by_cases c2:a.ordered=m.ordered
 case neg =>
  refine zab (zy4.2 c2) (zw ?_);have hsn:zoa m (A++[a])=zoa m A:=by rw [zhq,zy0 (by unfold alk;simp [c2])];rfl
  exact yy79
 refine zac (zy13.2 c2) (zw ?_)
 (refine cL ?_;refine dLm (zse a.data m.data) ?_)
 by_cases c3:a.data=m.data
 case neg =>
  rw [show decide (a.data=m.data)=false from zy11 c3];(conv=>whnf);have hsn:zoa m (A++[a])=zoa m A:=by rw [zhq,zy0 (by unfold alk;simp [c3])];rfl
  exact yy79
 rw [show decide (a.data=m.data)=true from zy9 c3];(conv=>whnf);have hsn:zoa m (A++[a])=zoa m A+1:=by rw [zhq,zy1 (by unfold alk;simp [c1,c2,c3])]
 (try refine sG ?_)
 refine sF ?_;refine sF ?_;refine hQ _ _ ?_;conv=>whnf
 exact ⟨⟨(A++[a],B),zae g⟩,(zax [(3,some 3)] zz44),by simp⟩
end Gh
namespace Gh
open Ser Snd Ln
def asM (a:zbf):Message:=⟨a.stream,a.ordered,0,0,a.data⟩
def nTk (T:List Message) (a:zbf):Nat:=(T.filter fun m=>alk m.stream m.ordered m.data a.stream a.ordered a.data).length
theorem zqe (T:List Message) (m:Message) (a:zbf):nTk (T++[m]) a=nTk T a+if alk m.stream m.ordered m.data a.stream a.ordered a.data=true then 1 else 0:=by
 unfold nTk;rw [zy45,zy10];by_cases h:alk m.stream m.ordered m.data a.stream a.ordered a.data=true
 . rw [zy1 h,zy145 (by simpa using h)];rfl
 . rw [zy0 h,zy120 (by simpa using h)];rfl
def xhw (T:List Message) (L:List zbf):Bool:=L.all fun a=>decide (zoa (asM a) L<=nTk T a)
def zmq (T:List Message) (a:zbf) (n:Nat):Nat:=n+(T.drop n).findIdx fun m=>alk m.stream m.ordered m.data a.stream a.ordered a.data
def zes (T:List Message) (s:Int):List zbf->Nat->Bool
 | [],_=>true
 | a::L,n=>if a.stream≠s\/a.ordered=false then zes T s L n else if zmq T a n<T.length then zes T s L (zmq T a n+1) else false
theorem zvx {T:List Message} {a:zbf} {k:Nat} (h:T.length<=k):zmq T a k=k:=by
 unfold zmq;rw [zy19 h];rfl
theorem zvy {T:List Message} {a:zbf} {k:Nat} {m:Message} (h:T[k]?=some m) (h2:alk m.stream m.ordered m.data a.stream a.ordered a.data=true):zmq T a k=k:=by
 obtain ⟨hlt,rfl⟩:=zy8.1 h;unfold zmq;rw [zy18 hlt,List.findIdx_cons,h2];rfl
theorem zkk {T:List Message} {a:zbf} {k:Nat} {m:Message} (h:T[k]?=some m) (h2:alk m.stream m.ordered m.data a.stream a.ordered a.data=false):zmq T a k=zmq T a (k+1):=by
 obtain ⟨hlt,rfl⟩:=zy8.1 h;unfold zmq;rw [zy18 hlt,List.findIdx_cons,h2];show k+(List.findIdx _ _+1)=_;omega
def zls (T:List Message) (L:List zbf):Bool:=xhw T L&&(zes T 0 L 0&&(zes T 1 L 0&&(zes T 2 L 0&&zes T 3 L 0)))
end Gh
namespace Gh
open Ser Snd Ln
abbrev xfs (a:zbf):zai:=.live (.cells 56 a.cells)
abbrev xjj (m:Message):zai:=.live (.cells 48 m.cells)
theorem ytu {T:List Message} {L:List zbf} {a:zbf} (ha:a∈L) (h:nTk T a<zoa (asM a) L):zls T L=false:=by
 have:xhw T L=false:=by
  unfold xhw;rw [List.all_eq_false];exact ⟨a,ha,by simp;omega⟩
 unfold zls;rw [this];rfl
theorem ydi {T:List Message} {L:List zbf} {s:Nat} (hs4:s<4) (h:zes T s L 0=false):zls T L=false:=by
 unfold zls;have h4:s=0\/s=1\/s=2\/s=3:=by omega
 rcases h4 with rfl | rfl | rfl | rfl
 . rw [show zes T 0 L 0=false from h];simp
 . rw [show zes T 1 L 0=false from h];simp
 . rw [show zes T 2 L 0=false from h];simp
 . rw [show zes T 3 L 0=false from h];simp
theorem yhg {T:List Message} {L:List zbf} (h1:∀ a∈L,zoa (asM a) L<=nTk T a) (h2:∀ s:Nat,s<4->zes T s L 0=true):zls T L=true:=by
 unfold zls;rw [show xhw T L=true from zy56.2 fun a ha=>zy9 (h1 a ha),show zes T 0 L 0=true from h2 0 (by decide),show zes T 1 L 0=true from h2 1 (by decide),show zes T 2 L 0=true from h2 2 (by decide),show zes T 3 L 0=true from h2 3 (by decide)];rfl
theorem yru (T:List Message) (L:List zbf) (hT:T.length<2 ^ 60) (hL:L.length<2 ^ 60):zan Tryz.prog 62 [msgs T,zky L] zad (zbj (zls T L)) zad:=by
 refine zal mixed Tryz.func62 zz4 ?_;generalize hR:zls T L=R;(conv=>whnf);refine ⟨{x:List zbf×List zbf // L=x.1++x.2/\∀ a∈x.1,zoa (asM a) L<=nTk T a},fun | ⟨(A,B),_⟩=>hs 121 [(0,msgs T),(1,zky L),(15,zky L),(16,i64 L.length),(17,i64 A.length)] [],fun x=>x.1.2.length,⟨([],L),rfl,by simp⟩,?_,?_⟩
 . exact (zbe [])
 rintro ⟨⟨A,B⟩,g,hA⟩;dsimp only at g hA;refine zbx fun Q hQ=>?_
 (conv=>whnf);cases B with
 | cons a B =>
  have gz:=zay g;have haL:a∈L:=by rw [g];simp
  have pc:=yld L (asM a) hL;refine sT ?_;refine zaj g rfl (zw ?_);refine ⟨{x:List Message×List Message // T=x.1++x.2},fun | ⟨(X,Y),_⟩=>hs 121 [(0,msgs T),(1,zky L),(6,.ptr 6 0),(7,.ptr 7 0),(8,i64 (nTk X a)),(15,zky L),(16,i64 L.length),(17,i64 A.length),(28,msgs T),(29,i64 T.length),(30,i64 X.length)] [(6,xfs a),(7,xjj (asM a))],fun x=>x.1.2.length,⟨([],T),rfl⟩,?_,?_⟩
  . exact (zbe [(6,some 6),(7,some 7)])
  rintro ⟨⟨X,Y⟩,g2⟩;dsimp only at g2;refine zbx fun Q2 hQ2=>?_
  (conv=>whnf);cases Y with
  | cons m Y =>
   have gz2:=zay g2;have hle:nTk X a<=X.length:=zy27 _ _;refine sT ?_;refine zaj g2 rfl (zw ?_)
   (try refine sG ?_)
   by_cases c1:m.stream=a.stream
   case neg =>
    refine zab (zy4.2 c1) (zw ?_);have hsn:nTk (X++[m]) a=nTk X a:=by rw [zqe,zy0 (by unfold alk;simp [c1])];rfl
    exact yy75
   refine zac (zy13.2 c1) (zw ?_);by_cases c2:m.ordered=a.ordered
   case neg =>
    refine zab (zy4.2 c2) (zw ?_);have hsn:nTk (X++[m]) a=nTk X a:=by rw [zqe,zy0 (by unfold alk;simp [c2])];rfl
    exact yy75
   refine zac (zy13.2 c2) (zw ?_)
   (refine cL ?_;refine dLm (zse m.data a.data) ?_)
   by_cases c3:m.data=a.data
   case neg =>
    rw [show decide (m.data=a.data)=false from zy11 c3];(conv=>whnf);have hsn:nTk (X++[m]) a=nTk X a:=by rw [zqe,zy0 (by unfold alk;simp [c3])];rfl
    exact yy75
   rw [show decide (m.data=a.data)=true from zy9 c3];(conv=>whnf);have hsn:nTk (X++[m]) a=nTk X a+1:=by rw [zqe,zy1 (by unfold alk;simp [c1,c2,c3])]
   (try refine sG ?_)
   refine sF ?_;refine sF ?_;refine hQ2 _ _ (zw ?_);exact ⟨⟨(X++[m],Y),zae g2⟩,(zax [(6,some 6),(7,some 7)] zz44),by simp⟩
  | nil =>
  have gz2:=zbk g2;rw [zy5] at g2;subst g2;refine sN ?_;refine hQ2 _ _ (zw ?_)
  (refine cL ?_;refine dLm pc ?_)
  by_cases c4:zoa (asM a) L>nTk T a
  case pos =>
   have hf:=ytu haL c4;rw [hR] at hf;subst hf;refine zac (zy9 zz0) (zw ?_);refine hQ _ _ ?_;conv=>whnf
   try rfl
  refine zab (zy11 zz0) (zw ?_);exact yy97
 | nil =>
 have gz:=zbk g;refine sN ?_;refine hQ _ _ ?_;conv=>whnf
 rw [zy5] at g;rw [<- g] at hA;refine ⟨{s:Nat // s<=4/\∀ j:Nat,j<s->zes T j L 0=true},fun | ⟨s,_⟩=>hs 121 [(0,msgs T),(1,zky L),(62,i64 s)] [],fun s=>4-s.1,⟨0,by omega,fun j hj=>by omega⟩,?_,?_⟩
 . exact (zbe [])
 rintro ⟨s,hs4,hsp⟩;refine zbx fun Q hQ=>?_
 (conv=>whnf);by_cases c5:s<4
 case neg =>
  have hf:=yhg hA fun j hj=>hsp j zz0
  rw [hR] at hf;subst hf;refine zab (zy11 zz0) (zw ?_);refine hQ _ _ ?_;conv=>whnf
  try rfl
 refine zac (zy9 zz0) (zw ?_);refine ⟨{x:(List zbf×List zbf)×Nat // L=x.1.1++x.1.2/\zes T s L 0=zes T s x.1.2 x.2/\x.2<=T.length},fun | ⟨((A,B),n),_⟩=>hs 121 [(0,msgs T),(1,zky L),(11,i64 s),(12,i64 n),(62,i64 s),(65,zky L),(66,i64 L.length),(67,i64 A.length)] [],fun x=>x.1.1.2.length,⟨(([],L),0),rfl,rfl,by omega⟩,?_,?_⟩
 . exact (zbe [])
 rintro ⟨⟨⟨A,B⟩,n⟩,g,hn,hnT⟩;dsimp only at g hn hnT;refine zbx fun Q2 hQ2=>?_
 (conv=>whnf);cases B with
 | nil =>
  have gz:=zbk g;refine sN ?_;refine hQ2 _ _ (zw ?_);refine sF ?_;refine hQ _ _ ?_;conv=>whnf
  exact ⟨⟨s+1,by omega,fun j hj=>by
   rcases Nat.lt_succ_iff_lt_or_eq.1 hj with hj | rfl
   . exact hsp j hj
   . exact hn⟩,(zbe []),by show 4-(s+1)<4-s;omega⟩
 | cons a B =>
 have gz:=zay g;refine sT ?_;refine zaj g rfl (zw ?_)
 (try refine sG ?_)
 by_cases d1:a.stream=(s:Int)
 case neg =>
  have hn2:zes T s (a::B) n=zes T s B n:=by rw [zes,zy1 (.inl d1)]
  refine zac (zy76.2 d1) (zw ?_);exact yy136
 refine zab (bne_eq_false_iff_eq.2 d1) (zw ?_);by_cases d2:a.ordered=false
 case pos =>
  rw [show (!a.ordered)=true by rw [d2];rfl];have hn2:zes T s (a::B) n=zes T s B n:=by rw [zes,zy1 (.inr d2)]
  (conv=>whnf);exact yy136
 rw [show (!a.ordered)=false by cases h:a.ordered with | false=>exact absurd h d2 | true=>rfl];have hn2:zes T s (a::B) n=if zmq T a n<T.length then zes T s B (zmq T a n+1) else false:=by rw [zes,zy0 (fun h=>h.elim (fun h=>h d1) d2)]
 conv=>whnf
 (try refine sG ?_)
 refine ⟨{k:Nat // k<=T.length/\zmq T a n=zmq T a k},fun | ⟨k,_⟩=>hs 121 [(0,msgs T),(1,zky L),(11,i64 s),(12,i64 k),(14,.ptr 14 0),(62,i64 s),(65,zky L),(66,i64 L.length),(67,i64 A.length)] [(14,xfs a)],fun x=>T.length-x.1,⟨n,hnT,rfl⟩,?_,?_⟩
 . exact (zbe [(14,some 14)])
 rintro ⟨k,hk,hkn⟩;refine zbx fun Q3 hQ3=>?_
 (conv=>whnf);by_cases c6:k<T.length
 case neg =>
  have hkT:k=T.length:=by omega
  have hf:zes T s L 0=false:=by rw [hn,hn2,hkn,zvx (by omega),zy0 c6]
  have hf:=ydi c5 hf;rw [hR] at hf;subst hf;refine zab (zy11 zz6) (zw ?_);refine sD ?_;refine hQ3 _ _ (zw ?_);refine zac (zy13.2 zz6) (zw ?_);refine hQ2 _ _ (zw ?_);refine hQ _ _ ?_;conv=>whnf
  try rfl
 obtain ⟨m,hm⟩:∃ m,T[k]?=some m:=⟨_,zy3 c6⟩
 have d2:a.ordered=true:=by cases h:a.ordered with | false=>exact absurd h d2 | true=>rfl
 refine zac (zy9 zz6) (zw ?_);refine zam hm rfl (zw ?_);by_cases e1:m.stream=(s:Int)
 case neg =>
  rw [show (m.stream==(s:Int))=false from zy4.2 e1];(conv=>whnf);have hms:alk m.stream m.ordered m.data a.stream a.ordered a.data=false:=by unfold alk;simp [d1,e1]
  exact yy57
 rw [show (m.stream==(s:Int))=true from zy13.2 e1];(conv=>whnf);refine zam hm rfl (zw ?_);by_cases e2:m.ordered=true
 case neg =>
  rw [show m.ordered=false from Bool.eq_false_iff.2 e2];(conv=>whnf);have hms:alk m.stream m.ordered m.data a.stream a.ordered a.data=false:=by unfold alk;simp [d2,e2]
  exact yy57
 rw [e2];(conv=>whnf);refine zam hm rfl (zw ?_)
 (refine cL ?_;refine dLm (zse m.data a.data) ?_)
 by_cases e3:m.data=a.data
 case neg =>
  rw [show decide (m.data=a.data)=false from zy11 e3];(conv=>whnf);have hms:alk m.stream m.ordered m.data a.stream a.ordered a.data=false:=by unfold alk;simp [e3]
  exact yy57
 rw [show decide (m.data=a.data)=true from zy9 e3];(conv=>whnf);have hht:alk m.stream m.ordered m.data a.stream a.ordered a.data=true:=by unfold alk;simp [e1,d1,e2,d2,e3]
 refine sD ?_;refine hQ3 _ _ (zw ?_);refine zab (zy4.2 zz6) (zw ?_)
 (try refine sG ?_)
 refine sF ?_;refine sF ?_;refine hQ2 _ _ (zw ?_);exact ⟨⟨((A++[a],B),k+1),zae g,by dsimp only;rw [hn,hn2,hkn,zvy hm hht,zy1 c6],by dsimp only;omega⟩,(zbe []),by simp⟩
end Gh
namespace Gh
open Ser Snd Ln
abbrev xfu:HV:=.clo 115 []
theorem ylm (T:List Message) (L:List zbf) (hT:T.length<2 ^ 60) (hL:L.length<2 ^ 60):zan Tryz.prog 63 [msgs T,zky L] zad (zbj (zls T L)) zad:=by
 refine zal mixed Tryz.func63 zz4 ?_;generalize hR:zls T L=R;(conv=>whnf);refine ⟨{x:List zbf×List zbf // L=x.1++x.2/\∀ a∈x.1,zoa (asM a) L<=nTk T a},fun | ⟨(A,B),_⟩=>hs 121 [(0,msgs T),(1,zky L),(5,xfu),(18,zky L),(19,i64 L.length),(20,i64 A.length)] [],fun x=>x.1.2.length,⟨([],L),rfl,by simp⟩,?_,?_⟩
 . exact (zbe [])
 rintro ⟨⟨A,B⟩,g,hA⟩;dsimp only at g hA;refine zbx fun Q hQ=>?_
 (conv=>whnf);cases B with
 | cons a B =>
  have gz:=zay g;have haL:a∈L:=by rw [g];simp
  refine sT ?_;refine zaj g rfl (zw ?_);refine ⟨{x:List Message×List Message // T=x.1++x.2},fun | ⟨(X,Y),_⟩=>hs 121 [(0,msgs T),(1,zky L),(5,xfu),(7,.ptr 7 0),(8,i64 (nTk X a)),(9,i64 0),(18,zky L),(19,i64 L.length),(20,i64 A.length),(24,msgs T),(25,i64 T.length),(26,i64 X.length)] [(7,xfs a)],fun x=>x.1.2.length,⟨([],T),rfl⟩,?_,?_⟩
  . exact (zbe [(7,some 7)])
  rintro ⟨⟨X,Y⟩,g2⟩;dsimp only at g2;refine zbx fun Q2 hQ2=>?_
  (conv=>whnf);cases Y with
  | cons m Y =>
   have gz2:=zay g2;have hle:nTk X a<=X.length:=zy27 _ _;have pa:=zsd m a;have hsn:=zqe X m a;refine sT ?_;refine zaj g2 rfl (zw ?_);generalize alk m.stream m.ordered m.data a.stream a.ordered a.data=w at pa hsn
   (try refine sG ?_)
   (refine cL ?_;refine dLm pa ?_)
   cases w with
   | true =>
    (conv=>whnf);have hsn:nTk (X++[m]) a=nTk X a+1:=hsn
    (try refine sG ?_)
    refine sF ?_;refine sF ?_;refine hQ2 _ _ (zw ?_);exact ⟨⟨(X++[m],Y),zae g2⟩,(zax [(7,some 7)] zz44),by simp⟩
   | false =>
    (conv=>whnf);have hsn:nTk (X++[m]) a=nTk X a:=hsn
    (try refine sG ?_)
    refine sF ?_;refine hQ2 _ _ (zw ?_);exact ⟨⟨(X++[m],Y),zae g2⟩,(zax [(7,some 7)] zz9),by simp⟩
  | nil =>
  have gz2:=zbk g2;rw [zy5] at g2;subst g2;refine sN ?_;refine hQ2 _ _ (zw ?_);refine ⟨{x:List zbf×List zbf // L=x.1++x.2},fun | ⟨(X,Y),_⟩=>hs 121 [(0,msgs T),(1,zky L),(5,xfu),(7,.ptr 7 0),(8,i64 (nTk T a)),(9,i64 (zoa (asM a) X)),(18,zky L),(19,i64 L.length),(20,i64 A.length),(37,zky L),(38,i64 L.length),(39,i64 X.length)] [(7,xfs a)],fun x=>x.1.2.length,⟨([],L),rfl⟩,?_,?_⟩
  . exact (zbe [(7,some 7)])
  rintro ⟨⟨X,Y⟩,g3⟩;dsimp only at g3;refine zbx fun Q3 hQ3=>?_
  (conv=>whnf);cases Y with
  | cons b Y =>
   have gz3:=zay g3;have hle:zoa (asM a) X<=X.length:=zy27 _ _;refine sT ?_;refine zaj g3 rfl (zw ?_)
   (try refine sG ?_)
   by_cases c1:b.stream=a.stream
   case neg =>
    refine zab (zy4.2 c1) (zw ?_);have hsn:zoa (asM a) (X++[b])=zoa (asM a) X:=by rw [zhq,zy0 (by unfold alk;simp [asM,c1])];rfl
    exact yy81
   refine zac (zy13.2 c1) (zw ?_);by_cases c2:b.ordered=a.ordered
   case neg =>
    refine zab (zy4.2 c2) (zw ?_);have hsn:zoa (asM a) (X++[b])=zoa (asM a) X:=by rw [zhq,zy0 (by unfold alk;simp [asM,c2])];rfl
    exact yy81
   refine zac (zy13.2 c2) (zw ?_);refine zfu rfl (zw ?_);refine zfu rfl (zw ?_);rw [yyk];by_cases c3:b.data=a.data
   case neg =>
    rw [show decide (b.data=a.data)=false from zy11 c3];(conv=>whnf);have hsn:zoa (asM a) (X++[b])=zoa (asM a) X:=by rw [zhq,zy0 (by unfold alk;simp [asM,c3])];rfl
    exact yy81
   rw [show decide (b.data=a.data)=true from zy9 c3];(conv=>whnf);have hsn:zoa (asM a) (X++[b])=zoa (asM a) X+1:=by rw [zhq,zy1 (by unfold alk;simp [asM,c1,c2,c3])]
   (try refine sG ?_)
   refine sF ?_;refine sF ?_;refine hQ3 _ _ (zw ?_);exact ⟨⟨(X++[b],Y),zae g3⟩,(zax [(7,some 7)] zz44),by simp⟩
  | nil =>
  have gz3:=zbk g3;rw [zy5] at g3;subst g3;refine sN ?_;refine hQ3 _ _ (zw ?_);by_cases c4:zoa (asM a) L>nTk T a
  case pos =>
   have hf:=ytu haL c4;rw [hR] at hf;subst hf;rw [show decide ((zoa (asM a) L:Int)>(nTk T a:Int))=true from zy9 (by omega)];(conv=>whnf);refine hQ _ _ ?_;conv=>whnf
   try rfl
  rw [show decide ((zoa (asM a) L:Int)>(nTk T a:Int))=false from zy11 (by omega)];(conv=>whnf);exact yy97
 | nil =>
 have gz:=zbk g;refine sN ?_;refine hQ _ _ ?_;conv=>whnf
 rw [zy5] at g;rw [<- g] at hA;refine ⟨{x:(List zbf×List zbf)×List (Int×Int) // L=x.1.1++x.1.2/\(∀ s:Nat,s<4->zes T s L 0=zes T s x.1.2 (lkp x.2 s).toNat)/\∀ s:Int,0<=lkp x.2 s/\lkp x.2 s<=T.length},fun | ⟨((A,B),E),_⟩=>hs 121 [(0,msgs T),(1,zky L),(5,xfu),(14,.mp 901),(72,zky L),(73,i64 L.length),(74,i64 A.length)] [(901,xiq E)],fun x=>x.1.1.2.length,⟨(([],L),[]),rfl,fun s _=>rfl,fun s=>⟨zy70 0,by show (0:Int)<=T.length;omega⟩⟩,?_,?_⟩
 . exact (zbe [(901,some 71)])
 rintro ⟨⟨⟨A,B⟩,E⟩,g,hn,hE⟩;dsimp only at g hn hE;refine zbx fun Q hQ=>?_
 (conv=>whnf);cases B with
 | nil =>
  have gz:=zbk g;have hf:=yhg hA fun s hs4=>hn s hs4
  rw [hR] at hf;subst hf;refine sN ?_;refine hQ _ _ ?_;conv=>whnf
  try rfl
 | cons a B =>
 have gz:=zay g;refine sT ?_;refine zaj g rfl (zw ?_);by_cases d2:a.ordered=false
 case pos =>
  rw [show (!a.ordered)=true by rw [d2];rfl];(conv=>whnf);have hsk:∀ s:Nat,s<4->a.stream≠(s:Int)\/a.ordered=false:=fun s _=>.inr d2
  exact yy43
 rw [show (!a.ordered)=false by cases h:a.ordered with | false=>exact absurd h d2 | true=>rfl];have d2:a.ordered=true:=by cases h:a.ordered with | false=>exact absurd h d2 | true=>rfl
 (conv=>whnf);by_cases d3:a.stream<0
 case pos =>
  refine zac (zy9 d3) (zw ?_);have hsk:∀ s:Nat,s<4->a.stream≠(s:Int)\/a.ordered=false:=fun s _=>.inl zz0
  exact yy43
 refine zab (zy11 d3) (zw ?_);by_cases d4:a.stream>3
 case pos =>
  rw [show decide (a.stream>3)=true from zy9 d4];(conv=>whnf);have hsk:∀ s:Nat,s<4->a.stream≠(s:Int)\/a.ordered=false:=fun s _=>.inl zz0
  exact yy43
 rw [show decide (a.stream>3)=false from zy11 d4];(conv=>whnf)
 (try refine sG ?_)
 obtain ⟨s0,d1,hs0⟩:∃ s:Nat,a.stream=(s:Int)/\s<4:=⟨a.stream.toNat,by omega,by omega⟩
 have hEa:=hE a.stream;obtain ⟨n,hnn,hnT⟩:∃ n:Nat,lkp E a.stream=(n:Int)/\n<=T.length:=⟨(lkp E a.stream).toNat,by omega,by omega⟩
 have hne:(lkp E (s0:Int)).toNat=n:=by rw [<- d1,hnn];rfl
 have hf:∃ o,o=zrh (E.map yzi) (.int .i64 a.stream)/\(o=none/\lkp E a.stream=0\/o=some [pi (lkp E a.stream)]):=⟨_,rfl,yeu a.stream E⟩
 obtain ⟨o,ho,hf⟩:=hf;refine ⟨o,ho,?_⟩;rcases hf with ⟨rfl,hf⟩ | rfl
 case inl =>
  (conv=>whnf);refine ⟨{k:Nat // k<=T.length/\zmq T a n=zmq T a k},fun | ⟨k,_⟩=>hs 121 [(0,msgs T),(1,zky L),(5,xfu),(14,.mp 901),(16,.ptr 16 0),(17,i64 k),(72,zky L),(73,i64 L.length),(74,i64 A.length)] [(16,xfs a),(901,xiq E)],fun x=>T.length-x.1,⟨n,hnT,rfl⟩,?_,?_⟩
  . exact (zax [(16,some 16),(901,some 901)] (by repeat' (first | exact z0 | refine z1 ?_ | refine ⟨?_,?_⟩ | ((rw [show (n:Int)=0 by omega])) | exact z2)))
  exact yy11
 case inr =>
  (conv=>whnf);refine ⟨{k:Nat // k<=T.length/\zmq T a n=zmq T a k},fun | ⟨k,_⟩=>hs 121 [(0,msgs T),(1,zky L),(5,xfu),(14,.mp 901),(16,.ptr 16 0),(17,i64 k),(72,zky L),(73,i64 L.length),(74,i64 A.length)] [(16,xfs a),(901,xiq E)],fun x=>T.length-x.1,⟨n,hnT,rfl⟩,?_,?_⟩
  . exact (zax [(16,some 16),(901,some 901)] (by repeat' (first | exact z0 | refine z1 ?_ | refine ⟨?_,?_⟩ | ((rw [<- hnn])) | exact z2)))
  exact yy11
end Gh
namespace Snd
open Ser
def FT (s:zag):Prop:=∀ f∈s.fates,1<=f/\f<=3
theorem FT.side {s t:zag} (h:FT s) (e:t.fates=s.fates):FT t:=by unfold FT;rw [e];exact h
theorem yug {s:zag} (h:FT s) (id:Nat):FT (zfc s id):=by
 intro f hf;rw [znk] at hf;rcases zy57 hf with hf | rfl
 . exact h f hf
 . decide
section
variable {N:Nat} {s:zag}
theorem ymm:∀ (q:List zak) {s:zag},(∀ m∈q,0<=m.id)->FT s->FT (q.foldl zkx s)
 | [],_,_,h=>h
 | m::q,s,hq,h=>by
  refine ymm q (fun x hx=>hq x zz92) ?_;unfold zkx;split
  . rw [show m.id=((m.id.toNat:Nat):Int) by have:=hq m (by simp);omega];exact yug h _
  . exact h
theorem ymp:∀ (q:List zbo) {s:zag},(∀ m∈q,0<=m.id)->FT s->FT (q.foldl zhd s)
 | [],_,_,h=>h
 | m::q,s,hq,h=>by
  refine ymp q (fun x hx=>hq x zz92) ?_;unfold zhd;split
  . rw [show m.id=((m.id.toNat:Nat):Int) by have:=hq m (by simp);omega];exact yug h _
  . exact h
theorem ytt (hS:SI N s) (h:FT s):FT (expire s):=by
 obtain ⟨h2,-⟩:=zua s.queue s hS fun m hm=>⟨(hS.queue m hm).id0,(hS.queue m hm).id1⟩
 exact ymp _ (fun x hx=>(h2.out x hx).id0) (ymm _ (fun m hm=>(hS.queue m hm).id0) h)
theorem yev (p:zew) (i path:Nat):(fly p i path).s.fates=p.s.fates:=by
 unfold fly;split<;>rfl
theorem zsr {path:Nat}:∀ (l:List Nat) (p:zew),(l.foldl (zcz path) p).s.fates=p.s.fates
 | [],_=>rfl
 | i::l,p=>by
  rw [zy50,zsr l];unfold zcz;split
  . rfl
  . split
    . exact yev _ _ _
    . rfl
theorem yqt {p q:zew} (h:next p=some q):q.s.fates=p.s.fates:=by
 obtain ⟨s,o⟩:=p;unfold next at h;dsimp only at h;split at h
 . cases h
 cases hm:s.queue[(zec s).toNat]? with
 | none=>rw [hm] at h;cases h
 | some m =>
  rw [hm] at h;dsimp only at h;split at h
  . cases h
  . cases h
    exact yev _ _ _
theorem zwa:∀ (n:Nat) (p:zew),(zfl n p).s.fates=p.s.fates
 | 0,_=>rfl
 | n+1,p=>by
  rw [zfl];cases hq:next p with
  | none=>rfl
  | some q=>rw [show (zfl n q).s.fates=_ from zwa n q,yqt hq]
theorem ybb (p:zew):(forward p).s.fates=p.s.fates:=by unfold forward;split<;>rfl
theorem zwm (hS:SI N s) (h:FT s):FT (zjp s).1:=by
 refine (ytt hS h).side ?_;show (zfl 61 (again (forward ⟨expire s,List.replicate s.paths.length []⟩))).s.fates=_;rw [zwa];exact (zsr _ _).trans (ybb _)
theorem xfg (h:FT s) (m:Message):FT (zht s m):=by
 intro f hf;rcases zy21.1 (show f∈s.fates++[1] from hf) with hf | hf
 . exact h f hf
 . rw [zy23] at hf;subst hf;decide
theorem yrb (s:zag) (id:Nat) {f:Int} (h:1<=f/\f<=3):1<=settled s id f/\settled s id f<=3:=by
 unfold settled
 repeat' split
 all_goals omega
theorem xdz (h:FT s) (c:Chunk):FT (yfg s c):=by
 unfold yfg;split
 . exact h
 split
 . exact h
 rw [zpu];have hT:∀ p l,(zjk p (zoe s c (Sco.zin s.out s.cum c s.paths.length)) l).fates=s.fates:=fun p l=>by
  unfold zjk;split
  . rfl
  . split<;>rfl
 have hV:∀ b u,(zgp b u).fates=u.fates:=fun b u=>by unfold zgp;split<;>rfl
 intro f hf;have hf:f∈List.mapIdx _ _:=hf;obtain ⟨i,hi⟩:=List.getElem?_of_mem hf;rw [zy90,hV,hT] at hi;cases hg:s.fates[i]? with
 | none=>rw [hg] at hi;cases hi
 | some g=>rw [hg] at hi;cases hi;exact yrb _ _ (h g (zy20 hg))
theorem ykj (part:Int) (s:zag) (i:Nat):(zlc part s i).fates=s.fates:=by
 unfold zlc;split
 . rfl
 split
 . rfl
 dsimp only;split<;>rfl
theorem zvr (part:Int):∀ (l:List Nat) (s:zag),(l.foldl (zlc part) s).fates=s.fates
 | [],_=>rfl
 | i::l,s=>by rw [zy50,zvr part l,ykj]
theorem xfl (h:FT s):FT (tick s):=h.side (zvr _ _ _)
end
end Snd
namespace Ln
open Ser Snd
theorem ync {back:Bool}:∀ (cs:List Chunk) {x:zem×Bool},FT x.1.sender->FT (cs.foldl (zgb back) x).1.sender
 | [],_,h=>h
 | c::cs,x,h=>by
  refine ync (back:=back) cs ?_;unfold zgb;split
  . exact xdz h c
  split
  . exact h
  split<;>exact h
theorem xdo {l:zem} (h:FT l.sender) (p:zau):FT (zgz l p).sender:=by
 have h2:FT (zjj l p).1.sender:=ync (back:=p.back) _ (x:=(l,false)) h;unfold zgz;split
 . exact h
 split
 . unfold told;split<;>exact h2
 . exact h2
theorem xgj {N M:Nat} {l:zem} (hl:LI N M l) (h:FT l.sender) (x:Step) (hN:N+1<=2 ^ 20) (hM:M+120<=2000000):FT (doS l x).1.sender:=by
 unfold doS;split
 . split
   . rename_i e
     exact zwm (zwt hl.snd e hN) (xfg h _)
   . exact h
 split
 . split
   . exact h
   split
   . exact h
   rename_i p hp;have hb:=hl.bytes p (zy20 hp);split
   . exact zwm hl.snd h
   . split
     . have hli:LI N M {l with way:=l.way.eraseIdx x.n.toNat}:=⟨hl.snd,hl.rcv,hl.small,by show (l.way.eraseIdx _).length<=40;have:=hl.way;rw [zy73];split<;>omega,fun q hq=>hl.bytes q (zy63 hq)⟩
       exact zwm (zvd hli hb hM).snd (xdo (l:={l with way:=l.way.eraseIdx x.n.toNat}) h p)
     . exact zwm hl.snd h
 split
 . exact zwm (zxk hl.snd) (xfl h)
 . exact h
theorem yoq:∀ (a:List Step) {N M:Nat} {l:zem},LI N M l->FT l.sender->N+a.length<=2 ^ 20->M+120*a.length<=2000000->FT (zot l a).1.sender
 | [],_,_,_,_,h,_,_=>h
 | x::a,N,M,l,hl,h,h1,h2=>by
  simp only [zy6] at h1 h2;exact yoq a (yme hl x zz0 zz0) (xgj hl h x zz0 zz0) zz0 zz0
end Ln
namespace Sch
def pick (q:List zak):List Int->Int
 | []=>-1
 | k::r=>if first q k>=0 then first q k else pick q r
theorem zwj {q:List zak}:∀ {H:List Int} {R:List Int},(∀ h∈H,¬ first q h>=0)->pick q (H++R)=pick q R
 | [],R,_=>rfl
 | h::H,R,hh=>by
  rw [zy40,pick,zy0 (hh h (by simp))];exact zwj fun x hx=>hh x zz92
theorem zyg {q:List zak} {last n:Int} (h1:0<=last) (h2:last<2 ^ 41):∀ (j k:Nat),k+j<2 ^ 41->after q last n k j=pick q ((List.range' k j).map fun i:Nat=>(last+1+(i:Int)).tmod n)
 | 0,k,_=>rfl
 | j+1,k,hk=>by
  rw [after,List.range'_succ,zy29,pick,zyg h1 h2 j (k+1) (by omega),zbt (z:=last+1) (by omega) (by omega),zbt (by omega) (by omega)]
theorem yhd {q:List zak}:∀ (j k:Nat),zgy q k j=pick q ((List.range' k j).map fun i:Nat=>(i:Int))
 | 0,k=>rfl
 | j+1,k=>by rw [zgy,List.range'_succ,zy29,pick,yhd j (k+1)]
def am (p:Nat->Bool) (had:List Int) (best:Int) (k:Nat):List Int->Int
 | []=>best
 | n::r=>if p k=true/\(best<0\/n<had[best.toNat]?.getD 0) then am p had k (k+1) r else am p had best (k+1) r
theorem ztx {q:List zak} {had:List Int}:∀ (l:List Int) (best:Int) (k:Nat),zeo q had best k l=am (fun k=>decide (first q k>=0)) had best k l
 | [],_,_=>rfl
 | n::r,best,k=>by
  rw [zeo,am,ztx r,ztx r];simp only [zy42]
def Arg (p:Nat->Bool) (had:List Int) (k:Nat) (b:Int):Prop :=
 (b=-1/\∀ i:Nat,i<k->p i=false)\/∃ m:Nat,b=m/\m<k/\p m=true/\∀ i:Nat,i<k->p i=true->had[m]?.getD 0<=had[i]?.getD 0/\(i<m->had[m]?.getD 0<had[i]?.getD 0)
theorem ydy {p:Nat->Bool} {had:List Int}:∀ (j k:Nat) (b:Int),k+j=had.length->Arg p had k b->Arg p had had.length (am p had b k (had.drop k))
 | 0,k,b,h,a=>by
  rw [zy19 (by omega),am]
  rwa [show k=had.length by omega] at a
 | j+1,k,b,h,a=>by
  have hlt:k<had.length:=by omega
  have hg:had[k]?.getD 0=had[k]:=by simp [hlt]
  rw [zy18 hlt,am];split
  . rename_i c
    refine ydy j (k+1) k zz0 (.inr ⟨k,rfl,by omega,c.1,fun i hi hp=>?_⟩);rcases a with ⟨rfl,h1⟩ | ⟨m,rfl,h1,h2,h3⟩
    . have:i=k:=by
       by_cases e:i=k
       . exact e
       . have:=h1 i zz0;rw [hp] at this;cases this
      subst this;exact ⟨zy70 _,fun h=>by omega⟩
    . rcases c.2 with c2 | c2
      . omega
      rw [zy22] at c2;by_cases e:i=k
      . subst e;exact ⟨zy70 _,fun h=>by omega⟩
      . have:=h3 i zz0 hp
        rw [hg];omega
  . rename_i c
    refine ydy j (k+1) b zz0 ?_;rcases a with ⟨rfl,h1⟩ | ⟨m,rfl,h1,h2,h3⟩
    . refine .inl ⟨rfl,fun i hi=>?_⟩
      by_cases e:i=k
      . subst e
        cases hp:p i with
        | false=>rfl
        | true=>exact absurd ⟨hp,.inl zz4⟩ c
      . exact h1 i zz0
    . refine .inr ⟨m,rfl,by omega,h2,fun i hi hp=>?_⟩
      by_cases e:i=k
      . subst e
        have:¬ had[i]<had[m]?.getD 0:=fun h=>c ⟨hp,.inr (by rw [zy22];exact h)⟩
        rw [hg];omega
      . exact h3 i zz0 hp
theorem ytc {p:Nat->Bool} {had:List Int} {n:Nat} {b b':Int} (h:Arg p had n b) (h':Arg p had n b'):b=b':=by
 rcases h with ⟨rfl,h1⟩ | ⟨m,rfl,h1,h2,h3⟩<;>rcases h' with ⟨rfl,h4⟩ | ⟨m',rfl,h4,h5,h6⟩
 . rfl
 . rw [h1 m' h4] at h5;cases h5
 . rw [h4 m h1] at h2;cases h2
 . have h7:=h3 m' h4 h5
   have h8:=h6 m h1 h2;by_cases e:m=m'
   . rw [e]
   . rcases zy143 e with e | e
     . have:=h8.2 e;omega
     . have:=h7.2 e;omega
def yko (had:List Int) (H:List Int):Int:=am (fun k=>decide ((k:Int)∉H)) had (-1) 0 had
def zrg (had:List Int):Nat->List Int->List Int
 | 0,H=>H
 | j+1,H=>zrg had j (H++[yko had H])
theorem yeq {had:List Int}:∀ (j:Nat) (H:List Int),∃ R,zrg had j H=H++R
 | 0,H=>⟨[],by simp [zrg]⟩
 | j+1,H=>by
  obtain ⟨R,h⟩:=yeq (had:=had) j (H++[yko had H]);exact ⟨yko had H::R,by rw [zrg,h];simp⟩
theorem yep {had:List Int}:∀ (j:Nat) (H:List Int),(zrg had j H).length=H.length+j
 | 0,H=>rfl
 | j+1,H=>by rw [zrg,yep j];simp;omega
theorem ytb:∀ (n:Nat) (H:List Int),(∀ i:Nat,i<n->(i:Int)∈H)->n<=H.length
 | 0,_,_=>zy107 _
 | n+1,H,h=>by
  have h1:=ytb n (H.erase (n:Int)) fun i hi=>(List.mem_erase_of_ne zz0).2 (h i zz0)
  have h2:(n:Int)∈H:=h n zz0;rw [List.length_erase_of_mem h2] at h1;have:=List.length_pos_of_mem h2;omega
theorem yvs (had H:List Int):Arg (fun k=>decide ((k:Int)∉H)) had had.length (yko had H):=by
 have:=ydy (p:=fun k=>decide ((k:Int)∉H)) (had:=had) had.length 0 (-1) zz0 (.inl ⟨rfl,fun i hi=>by omega⟩);exact this
theorem yer {s:zhv} {q:List zak}:∀ (j:Nat) (H:List Int),H.length+j=s.had.length->((List.range s.had.length).filter fun i:Nat=>decide ((i:Int)∉H)).length<=j->(∀ h∈H,¬ first q h>=0) ->
 pick q (zrg s.had j H)=least s q
 | 0,H,h1,h2,h3=>by
  have hall:∀ i:Nat,i<s.had.length->(i:Int)∈H:=fun i hi=>by
   have h4:(List.range s.had.length).filter (fun i:Nat=>decide ((i:Int)∉H))=[]:=zy15 zz0;rw [List.filter_eq_nil_iff] at h4
   simpa using h4 i (by simpa using hi)
  have ha:Arg (fun k=>decide (first q k>=0)) s.had s.had.length (-1):=.inl ⟨rfl,fun i hi=>by simpa using h3 _ (hall i hi)⟩;have hl:=ydy (p:=fun k=>decide (first q k>=0)) (had:=s.had) s.had.length 0 (-1) zz0 (.inl ⟨rfl,fun i hi=>by omega⟩);have he:=ytc ha hl;have h5:=zwj (R:=[]) h3;rw [zy5] at h5;rw [zrg,h5,pick,least,ztx];show _=if am _ s.had (-1) 0 s.had<0 then _ else _
  rw [show am (fun k=>decide (first q k>=0)) s.had (-1) 0 s.had=-1 from he.symm,zy1 (by decide)]
 | j+1,H,h1,h2,h3=>by
  rw [zrg];have hn:=yvs s.had H;generalize yko s.had H=b at hn ⊢;have hn':=hn;rcases hn' with ⟨rfl,g1⟩ | ⟨m,rfl,g1,g2,g3⟩
  . have:=ytb s.had.length H fun i hi=>by simpa using g1 i hi
    omega
  by_cases c:first q m>=0
  . have ha:Arg (fun k=>decide (first q k>=0)) s.had s.had.length m:=.inr ⟨m,rfl,g1,by simpa using c,fun i hi hp=>g3 i hi (by
     have hp:first q i>=0:=by simpa using hp
     have:(i:Int)∉H:=fun hc=>h3 _ hc hp
     simpa using this)⟩
    have hl:=ydy (p:=fun k=>decide (first q k>=0)) (had:=s.had) s.had.length 0 (-1) zz0 (.inl ⟨rfl,fun i hi=>by omega⟩);have he:=ytc ha hl;obtain ⟨R,hR⟩:=yeq (had:=s.had) j (H++[(m:Int)]);rw [hR,zy28,zwj h3];show (if first q m>=0 then first q m else _)=_;rw [zy1 c,least,ztx];show _=if am _ s.had (-1) 0 s.had<0 then _ else first q (am _ s.had (-1) 0 s.had)
    rw [show am (fun k=>decide (first q k>=0)) s.had (-1) 0 s.had=m from he.symm,zy0 (by omega)]
  . have g2:(m:Int)∉H:=by simpa using g2
    refine yer j (H++[(m:Int)]) zz3 ?_ fun h hh=>?_
    . have e:(List.range s.had.length).filter (fun i:Nat=>decide ((i:Int)∉H++[(m:Int)]))=((List.range s.had.length).filter fun i:Nat=>decide ((i:Int)∉H)).filter fun i:Nat=>decide (i≠m):=by
       rw [List.filter_filter];refine List.filter_congr fun i _=>?_
       by_cases e1:i=m<;>by_cases e2:(i:Int)∈H<;>simp [e1,e2]<;>omega
      rw [e];have:=(List.length_filter_lt_length_iff_exists (p:=fun i:Nat=>decide (i≠m)) (l:=(List.range s.had.length).filter fun i:Nat=>decide ((i:Int)∉H))).2 ⟨m,by simp [g1,g2],by simp⟩;omega
    . rcases zy21.1 hh with hh | hh
      . exact h3 h hh
      . rw [zy23] at hh;subst hh;exact c
def mark (H:List Int) (b:Int):List Int:=if b∈H then H else H++[b]
def keys (O:List Int):List Int:=O.foldl mark []
theorem yvg (O:List Int) (b:Int):keys (O++[b])=mark (keys O) b:=by simp [keys]
theorem xai {H:List Int} {b x:Int}:x∈mark H b↔x∈H\/x=b:=by
 unfold mark;split
 . rename_i h
   exact ⟨.inl,fun h'=>h'.elim id fun e=>e ▸ h⟩
 . simp
theorem yoa:∀ (O:List Int) (H:List Int) (x:Int),x∈O.foldl mark H↔x∈H\/x∈O
 | [],H,x=>by simp
 | b::O,H,x=>by rw [zy50,yoa O,xai,zy14,or_assoc]
theorem mem_keys {O:List Int} {x:Int}:x∈keys O↔x∈O:=by rw [keys,yoa];simp
def ent (n:Int):Value×List PV:=(.int .i64 n,[pb true])
theorem ymu (b:Int):∀ H:List Int,zrh (H.map ent) (.int .i64 b)=if b∈H then some [pb true] else none
 | []=>rfl
 | x::H=>by
  rw [zy29,ent,zrh,ymu b H];by_cases e:b=x
  . subst e;simp [zlw]
  . have:zlw (.int .i64 b) (.int .i64 x)=false:=by simpa [zlw] using e
    rw [this];simp [e]
theorem ywq (b:Int):∀ H:List Int,ywo (H.map ent) (.int .i64 b) [pb true]=(mark H b).map ent
 | []=>rfl
 | x::H=>by
  rw [zy29,show ent x=(.int .i64 x,[pb true]) from rfl,ywo,ywq b H];by_cases e:b=x
  . subst e;simp [zlw,mark,ent]
  . have:zlw (.int .i64 b) (.int .i64 x)=false:=by simpa [zlw] using e
    rw [this];unfold mark;by_cases e2:b∈H
    . simp [e,e2,ent]
    . simp [e,e2,ent]
theorem znu (q:List zak) (stream:Int) (hb:q.length<2 ^ 62):zan Tryz.prog 168 [qs q,i64 stream] zad (i64 (first q stream)) zad:=by
 refine zal mixed Tryz.func168 zz4 ?_;(conv=>whnf);refine ⟨{k:Nat // k<=q.length/\zch (fun m:zak=>m.message.stream==stream) k (q.drop k)=first q stream},fun | ⟨k,_⟩=>hs 21 [(1,i64 stream),(7,qs q),(8,i64 q.length),(9,i64 k)] [],fun k=>q.length-k.1,⟨0,by simp [first]⟩,?_,?_⟩
 . exact (zbe [])
 rintro ⟨k,hk,hi⟩;(conv=>whnf);by_cases c:k<q.length
 . rw [zy18 c] at hi
   simp only [zch] at hi;refine sT ?_;refine zca k rfl c (zw ?_);refine zah (fun h=>?_) (fun h=>?_)
   . conv=>whnf
     rw [zy1 h] at hi;rw [<- hi]
   . conv=>whnf
     rw [zy0 (by rw [h];decide)] at hi;refine sF ?_;exact ⟨⟨k+1,c,hi⟩,(zbe []),by dsimp only;omega⟩
 . rw [zy19 (by omega)] at hi
   refine sN ?_;rw [<- hi];rfl
theorem xgq (s:zhv) (m:zak) (bytes:Int) (zyb:Bool):(s.had.mapIdx fun k n=>if (k:Int)=m.message.stream then W (n+bytes) else n)=(had s m bytes zyb).had:=by
 unfold had;dsimp only;apply List.ext_getElem
 . split<;>simp
 . intro i h1 h2
   have hi:i<s.had.length:=by simpa using h1
   rw [List.getElem_mapIdx];split
   . rename_i e
     have hm:0<=m.message.stream/\m.message.stream<s.had.length:=by omega
     simp only [zy1 hm];rw [List.getElem_set];rw [zy1 (by omega),show m.message.stream.toNat=i by omega];simp [hi]
   . rename_i e
     by_cases hm:0<=m.message.stream/\m.message.stream<s.had.length
     . simp only [zy1 hm]
       rw [List.getElem_set,zy0 (by omega)]
     . simp only [zy0 hm]
abbrev yww (l:List Int):zai:=.live (.row 3 1 (l.map fun n=>[pi n]))
theorem yxx (s:zhv) (m:zak) (bytes:Int) (zyb:Bool) (hb:s.had.length<2 ^ 40):zan Tryz.prog 143 [s.hv,m.hv,i64 bytes,zbj zyb] zad (had s m bytes zyb).hv zad:=by
 refine zal mixed Tryz.func143 zz4 ?_;have hf:=xgq s m bytes zyb;generalize hT:had s m bytes zyb=T at hf;have h1:T.last=m.message.stream:=by rw [<- hT];rfl
 have h2:T.hand=if zyb then -1 else m.id:=by rw [<- hT];rfl
 obtain ⟨a1,a2,a3⟩:=T;dsimp only at h1 h2 hf;subst h1;rw [<- hf,h2];clear hT hf h2;cases zyb
 all_goals
  conv=>whnf
  repeat refine sG ?_
 . refine ⟨{x:List Int×List Int // s.had=x.1++x.2},fun | ⟨(a,b),_⟩=>hs 44 [(2,i64 bytes),(5,.ptr 5 0),(8,.ptr 8 0),(9,.ptr 9 0),(21,ints s.had),(22,i64 s.had.length),(23,i64 a.length)] [(5,.live (.cells 117 m.cells)),(8,.live (.cells 28 [i64 0,i64 0,zeg])),(9,.live (.cells 28 [i64 m.message.stream,i64 m.id,.own 900])),(900,yww (a.mapIdx fun k n=>if (k:Int)=m.message.stream then W (n+bytes) else n))],fun x=>x.1.2.length,⟨([],s.had),rfl⟩,?_,?_⟩
   . exact (zbe [(5,some 5),(8,some 8),(9,some 9),(900,none)])
   exact yy12
 . refine ⟨{x:List Int×List Int // s.had=x.1++x.2},fun | ⟨(a,b),_⟩=>hs 44 [(2,i64 bytes),(5,.ptr 5 0),(8,.ptr 8 0),(9,.ptr 9 0),(21,ints s.had),(22,i64 s.had.length),(23,i64 a.length)] [(5,.live (.cells 117 m.cells)),(8,.live (.cells 28 [i64 0,i64 0,zeg])),(9,.live (.cells 28 [i64 m.message.stream,i64 (-1),.own 900])),(900,yww (a.mapIdx fun k n=>if (k:Int)=m.message.stream then W (n+bytes) else n))],fun x=>x.1.2.length,⟨([],s.had),rfl⟩,?_,?_⟩
   . exact (zbe [(5,some 5),(8,some 8),(9,some 9),(900,none)])
   exact yy12
theorem ysa (turns:Int) (s:zhv) (q:List zak) (h9:s.had.length<2 ^ 36) (hb:q.length<2 ^ 60) (hl:0<s.had.length->0<=s.last/\s.last<s.had.length):zan Tryz.prog 142 [i64 turns,s.hv,qs q] zad (i64 (next turns s q)) zad:=by
 refine zal mixed Tryz.func142 zz4 ?_;have hb:q.length<2 ^ 62:=by omega
 have hl1:(s.had.map fun n=>[pi n]).length=s.had.length:=by simp
 (conv=>whnf);by_cases c1:(q.length:Int)=0
 . rw [next,zy1 c1]
   refine zac zz39 ?_;conv=>whnf
   repeat refine sG ?_
 rw [next,zy0 c1];refine zab zz39 (zw ?_);by_cases c2:(s.had.length:Int)=0
 . rw [zy1 c2]
   refine zac zz29 ?_;conv=>whnf
   repeat refine sG ?_
 rw [zy0 c2];obtain ⟨g1,g2⟩:=hl zz0;have hafter:=zyg (q:=q) (last:=s.last) (n:=s.had.length) g1 zz0 s.had.length 0 zz0;refine zab zz29 (zw ?_)
 repeat refine sG ?_
 by_cases c3:turns=2
 . subst c3
   rw [zy1 rfl];(conv=>whnf)
   repeat refine sG ?_
   refine ⟨{k:Nat // k<=q.length/\zch (fun m:zak=>m.id==s.hand) k (q.drop k)=zqa s q},fun | ⟨k,_⟩=>hs 127 [(0,i64 2),(2,qs q),(4,.ptr 4 0),(7,i64 s.had.length),(31,qs q),(32,i64 q.length),(33,i64 k)] [(4,.live (.cells 28 s.cells))],fun k=>q.length-k.1,⟨0,by simp [zqa]⟩,?_,?_⟩
   . exact (zbe [(4,some 4)])
   rintro ⟨k,hk,hi⟩;refine zbx fun Q hQ=>?_
   (conv=>whnf);by_cases c:k<q.length
   . rw [zy18 c] at hi
     simp only [zch] at hi;refine sT ?_;refine zca k rfl c (zw ?_);refine zah (fun h=>?_) (fun h=>?_)
     . conv=>whnf
       rw [zy1 h] at hi;refine hQ _ _ ?_;conv=>whnf
       rw [zy1 (show zqa s q>=0 by rw [<- hi];omega),<- hi]
     . conv=>whnf
       rw [zy0 (by rw [h];decide)] at hi
       (try refine sG ?_)
       refine sF ?_;refine hQ _ _ ?_;conv=>whnf
       exact ⟨⟨k+1,c,hi⟩,(zbe [(4,some 4)]),by dsimp only;omega⟩
   . rw [zy19 (by omega)] at hi
     refine sN ?_;refine hQ _ _ ?_;conv=>whnf
     rw [zy0 (show ¬ zqa s q>=0 by rw [<- hi];simp [zch])];exact yy7
 rw [zy0 c3];refine zab zz89 (zw ?_)
 repeat refine sG ?_
 refine zab zz89 (zw ?_)
 repeat refine sG ?_
 by_cases c4:turns=3
 . subst c4
   rw [zy1 rfl];(conv=>whnf);exact yy7
 rw [zy0 c4];refine zab zz122 (zw ?_)
 repeat refine sG ?_
 by_cases c5:turns=4
 . subst c5
   rw [zy1 rfl,yhd];(conv=>whnf)
   repeat refine sG ?_
   refine ⟨{k:Nat // k<=s.had.length},fun | ⟨k,_⟩=>hs 127 [(2,qs q),(10,.own 900),(65,i64 s.had.length),(66,i64 k)] [(900,yww ((List.range' 0 k).map fun i:Nat=>(i:Int)))],fun k=>s.had.length-k.1,⟨0,by omega⟩,?_,?_⟩
   . exact (zbe [(900,none)])
   rintro ⟨k,hk⟩;refine zbx fun Q hQ=>?_
   (conv=>whnf);by_cases c:k<s.had.length
   . refine sT ?_
     refine zaa (c:=((((List.range' 0 k).map fun i:Nat=>(i:Int)).map fun n=>[pi n]).length+1)*8<=140737488355328) zz3 (zw ?_)
     (try refine sG ?_)
     refine sF ?_;refine hQ _ _ ?_;conv=>whnf
     exact ⟨⟨k+1,c⟩,(zax [(900,some 72)] (by repeat' (first | exact z0 | refine z1 ?_ | refine ⟨?_,?_⟩ | ((exact zbc (f:=fun n=>[pi n]) (x:=(k:Int)) (by rw [List.range'_concat];simp) rfl)) | exact z2))),by dsimp only;omega⟩
   . refine sN ?_
     refine hQ _ _ ?_;conv=>whnf
     have hkk:k=s.had.length:=by omega
     subst hkk;obtain ⟨O,hO⟩:∃ O,O=((List.range' 0 s.had.length).map fun i:Nat=>(i:Int)):=⟨_,rfl⟩
     rw [<- hO];generalize hN:pick q O=N;have hOl:O.length=s.had.length:=by rw [hO];simp
     refine ⟨{x:List Int×List Int // (O)=x.1++x.2/\pick q x.2=N},fun | ⟨(a,b),_⟩=>hs 127 [(2,qs q),(114,.own 900),(115,i64 (O).length),(116,i64 a.length)] [(900,yww (O))],fun x=>x.1.2.length,⟨([],O),rfl,hN⟩,?_,?_⟩
     . exact (zax [(900,some 900)] zz40)
     exact yy9
 rw [zy0 c5];refine zab (by simpa using c5) (zw ?_)
 repeat refine sG ?_
 by_cases c6:turns=5
 . subst c6
   rw [zy1 rfl,<- yer s.had.length [] (by simp) (by simpa using zy27 _ (List.range s.had.length)) (by simp)];(conv=>whnf)
   repeat refine sG ?_
   obtain ⟨O,hO⟩:∃ O,O=zrg s.had s.had.length []:=⟨_,rfl⟩
   rw [<- hO];generalize hN:pick q O=N;have hOl:O.length=s.had.length:=by rw [hO,yep];simp
   refine ⟨{x:Nat×List Int // x.1<=s.had.length/\x.2.length=x.1/\zrg s.had (s.had.length-x.1) x.2=O},fun | ⟨(j,H),_⟩=>hs 127 [(2,qs q),(4,.ptr 4 0),(7,i64 s.had.length),(10,.own 900),(13,.mp 901),(77,i64 s.had.length),(78,i64 j)] [(4,.live (.cells 28 s.cells)),(900,yww H),(901,.live (.map 4 false ((keys H).map ent)))],fun x=>s.had.length-x.1.1,⟨(0,[]),by dsimp only;omega,rfl,by dsimp only;rw [hO];rfl⟩,?_,?_⟩
   . exact (zbe [(4,some 4),(900,none),(901,some 76)])
   rintro ⟨⟨j,H⟩,h1,h2,h3⟩;dsimp only at h1 h2 h3;refine zbx fun Q0 hQ0=>?_
   (conv=>whnf);by_cases c:j<s.had.length
   . obtain ⟨d,hd⟩:∃ d,s.had.length-j=d+1:=⟨s.had.length-j-1,by omega⟩
     have hd2:s.had.length-(j+1)=d:=by omega
     rw [hd,zrg] at h3;refine sT ?_;refine ⟨{x:Nat×Int // x.1<=s.had.length/\(x.2<0\/x.2<x.1)/\am (fun k=>decide ((k:Int)∉H)) s.had x.2 x.1 (s.had.drop x.1)=yko s.had H},fun | ⟨(k,b),_⟩=>hs 127 [(2,qs q),(4,.ptr 4 0),(7,i64 s.had.length),(10,.own 900),(13,.mp 901),(77,i64 s.had.length),(78,i64 j),(14,i64 b),(80,i64 s.had.length),(81,i64 k)] [(4,.live (.cells 28 s.cells)),(900,yww H),(901,.live (.map 4 false ((keys H).map ent)))],fun x=>s.had.length-x.1.1,⟨(0,-1),by dsimp only;omega,.inl zz83,rfl⟩,?_,?_⟩
     . exact (zbe [(4,some 4),(900,some 900),(901,some 901)])
     rintro ⟨⟨k,b⟩,g1,g2,g3⟩;dsimp only at g1 g2 g3;refine zbx fun Q hQ=>?_
     (conv=>whnf);by_cases c7:k<s.had.length
     . rw [zy18 c7,am] at g3
       refine sT ?_;have hf:=ymu (k:Int) (keys H);by_cases c8:(k:Int)∈H
       . rw [zy1 (mem_keys.2 c8)] at hf
         rw [zy0 (by simp [c8])] at g3;refine ⟨_,hf.symm,zw ?_⟩;refine sD ?_
         (try refine sG ?_)
         refine sF ?_;refine hQ _ _ ?_;conv=>whnf
         exact ⟨⟨(k+1,b),c7,by dsimp only;omega,g3⟩,(zbe [(4,some 4),(900,some 900),(901,some 901)]),by dsimp only;omega⟩
       . rw [zy0 (fun h=>c8 (mem_keys.1 h))] at hf
         refine ⟨_,hf.symm,zw ?_⟩;by_cases c9:b<0
         . rw [zy1 ⟨by simp [c8],.inl c9⟩] at g3
           refine zac (by simpa using c9) (zw ?_);refine sD ?_;exact yy110
         . obtain ⟨m,hbm⟩:∃ m:Nat,b=m:=⟨b.toNat,by omega⟩
           have hm:m<s.had.length:=by omega
           have hg:s.had[m]?.getD 0=s.had[m]:=by simp [hm]
           rw [show b.toNat=m by omega,hg] at g3;refine zab (by simpa using c9) (zw ?_);refine zca k rfl c7 (zw ?_);refine zca m hbm hm (zw ?_);refine sD ?_;by_cases c10:s.had[k]<s.had[m]
           . rw [zy1 ⟨by simp [c8],.inr c10⟩] at g3
             refine zac (by simpa using c10) (zw ?_);exact yy110
           . rw [zy0 (fun h=>h.2.elim c9 c10)] at g3
             refine zab (by simpa using c10) (zw ?_)
             (try refine sG ?_)
             refine sF ?_;refine hQ _ _ ?_;conv=>whnf
             exact ⟨⟨(k+1,b),c7,.inr zz83,g3⟩,(zbe [(4,some 4),(900,some 900),(901,some 901)]),by dsimp only;omega⟩
     . rw [zy19 (by omega),am] at g3
       subst g3;refine sN ?_;refine hQ _ _ ?_;conv=>whnf
       refine ⟨_,(ywq _ _).symm,zw ?_⟩;refine zaa (c:=((H.map fun n=>[pi n]).length+1)*8<=140737488355328) zz3 (zw ?_)
       (try refine sG ?_)
       refine sF ?_;refine hQ0 _ _ (zw ?_);exact ⟨⟨(j+1,H++[yko s.had H]),c,by simp [h2],by dsimp only;rw [hd2];exact h3⟩,(zax [(4,some 4),(900,some 112),(901,some 901)] (by repeat' (first | exact z0 | refine z1 ?_ | refine ⟨?_,?_⟩ | ((exact zbc (f:=fun n=>[pi n]) rfl rfl)) | ((simp [yvg])) | exact z2))),by dsimp only;omega⟩
   . have hjj:j=s.had.length:=by omega
     subst hjj;rw [zy95,zrg] at h3;refine sN ?_;refine hQ0 _ _ (zw ?_);refine ⟨{x:List Int×List Int // (O)=x.1++x.2/\pick q x.2=N},fun | ⟨(a,b),_⟩=>hs 127 [(2,qs q),(114,.own 900),(115,i64 (O).length),(116,i64 a.length)] [(900,yww (O))],fun x=>x.1.2.length,⟨([],O),rfl,hN⟩,?_,?_⟩
     . exact (zax [(900,some 900)] (by repeat' (first | exact z0 | refine z1 ?_ | refine ⟨?_,?_⟩ | ((exact zbl (by rw [<- h3];simp))) | ((exact zar (by rw [h3]))) | exact z2)))
     exact yy9
 rw [zy0 c6];refine zab (by simpa using c6) ?_;conv=>whnf
end Sch
namespace Sco
open Ser
end Sco
namespace Sco
open Ser
theorem yij (l:List zbo) (path:Int) (hl:zev l):zan Tryz.prog 46 [zdz l,i64 path] zad (i64 (fl path l)) zad:=by
 obtain ⟨hl1,hl2⟩:=hl;refine zal mixed Tryz.func46 zz4 ?_;(conv=>whnf);refine ⟨{x:List zbo×List zbo // l=x.1++x.2},fun | ⟨(a,b),_⟩=>hs 31 [(1,i64 path),(5,i64 (fl path a)),(8,zdz l),(9,i64 l.length),(10,i64 a.length)] [],fun x=>x.1.2.length,⟨([],l),rfl⟩,?_,?_⟩
 . exact (zbe [])
 rintro ⟨⟨a,b⟩,h⟩;dsimp only at h;cases b with
 | nil =>
  have hz:=zbk h;(conv=>whnf);refine sN ?_;rw [h,zy5]
 | cons s b =>
  have hz:=zay h;have hf:=yzj path a;rw [h,zhu,zgq] at hl2;have e1:=ymx path a [s];rw [zvi] at e1;(conv=>whnf);refine sT ?_
  (try refine sG ?_)
  refine zaj h rfl (zw ?_);refine zah (fun c1=>?_) (fun c1=>?_)
  . conv=>whnf
    refine zah (fun c2=>?_) (fun c2=>?_)
    . conv=>whnf
      rw [zy1 ⟨by simpa using c2,by simpa using c1⟩] at e1;refine sF ?_;refine sF ?_;exact ⟨⟨(a++[s],b),zae h⟩,(zax [] zz20),by simp⟩
    . conv=>whnf
      rw [zy0 (by rintro ⟨h1,h2⟩;simp [h1] at c2)] at e1;refine sF ?_;exact ⟨⟨(a++[s],b),zae h⟩,(zax [] zz20),by simp⟩
  . conv=>whnf
    rw [zy0 (by rintro ⟨h1,h2⟩;simp [h2] at c1)] at e1;refine sF ?_;exact ⟨⟨(a++[s],b),zae h⟩,(zax [] zz20),by simp⟩
theorem ysb (l:List zbo) (cum:Int) (c:Chunk) (paths:Int) (hl:zev l) (hr:yiz l cum paths) (hsp:c.zas.length<2 ^ 60) :
 zan Tryz.prog 84 [zdz l,i64 cum,c.hv,i64 paths] zad (.tup [zdz (zin l cum c paths).1,i64 (zin l cum c paths).2.1,ints (zin l cum c paths).2.2.1,ints (zin l cum c paths).2.2.2]) zad:=by
 have hl1:=hl.len;have hp0:=hr.p0;have hp1:=hr.p1;have hc0:=hr.c0;have hc1:=hr.c1;refine zal mixed Tryz.func84 zz4 ?_;have hn:=ziy (a:=cum) (t:=c.tag) zz0 zz0;rw [zin];have hsr:=zkq cum c.tag zz0 zz0;generalize hN:zde cum c.tag=n at hn hsr ⊢;have e21:zai.live (.row 3 1 (List.replicate paths.toNat [pi 0]))=ybr (List.replicate paths.toNat 0):=by
  rw [ybr,zy74]
 (conv=>whnf);refine zaa (c:=0<=paths/\paths=paths/\paths*8<=140737488355328) zz0 ?_;(conv=>whnf)
 (refine cL ?_;refine dL hsr ?_)
 by_cases k1:n<cum\/n>cum+l.length
 . rw [zy1 k1]
   by_cases k2:n<cum
   . refine sT ?_
     exact yy105
   . refine sN ?_
     refine zao (z:=cum+((l.map zbo.row).length:Int)) (zbt zz6 zz6) (zw ?_);refine sT ?_;exact yy105
 . rw [zy0 k1]
   refine sN ?_;refine zao (z:=cum+((l.map zbo.row).length:Int)) (zbt zz6 zz6) (zw ?_);refine sN ?_;refine ⟨{x:List zbo×List zbo×List zbo×List Int×Int // SI l c n paths.toNat cum x},fun | ⟨(a,b,out,zgz,high),_⟩=>hs 136 [(1,i64 cum),(6,.ptr 6 0),(12,.own 900),(13,i64 n),(14,.own 901),(15,i64 high),(43,zdz l),(44,i64 l.length),(45,i64 a.length)] [(6,.live (.cells 61 c.cells)),(900,ybr zgz),(901,zja out)],fun x=>x.1.2.1.length,⟨([],l,[],List.replicate paths.toNat 0,0),rfl,rfl,rfl,rfl,zy70 _,by dsimp only;simp;omega⟩,?_,?_⟩
   . exact (zax [(6,some 6),(900,some 24),(901,none)] (by repeat' (first | exact z0 | refine z1 ?_ | refine ⟨?_,?_⟩ | (exact e21) | exact z2)))
   rintro ⟨⟨a,b,out,zgz,high⟩,hi⟩;have h:=hi.split;dsimp only at h;cases b with
   | nil =>
    have hz:=zbk h;obtain ⟨h1,h2,h3,h4,h5,h6⟩:=hi;dsimp only at h1 h2 h3 h4 h5 h6;rw [zy5] at h1;subst h1;rw [<- h3,<- h4,<- h2];have hlen:out.length<=l.length:=by rw [h2,left,zy2];exact zy27 _ _
    (conv=>whnf);refine sN ?_;refine ⟨{x:List zbo×List zbo // out=x.1++x.2},fun | ⟨(a,b),_⟩=>hs 136 [(12,.own 900),(13,i64 n),(15,i64 high),(19,.own 902),(20,.own 903),(99,.own 901),(100,i64 out.length),(101,i64 a.length)] [(900,ybr zgz),(901,zja out),(902,zja (a.map (age high))),(903,ybr (lost high a))],fun x=>x.1.2.length,⟨([],out),rfl⟩,?_,?_⟩
    . exact (zbe [(900,some 900),(901,some 901),(902,none),(903,none)])
    rintro ⟨⟨a,b⟩,h⟩;dsimp only at h;cases b with
    | nil =>
     have hz:=zbk h;rw [zy5] at h;subst h;(conv=>whnf)
     ((refine yun ?_;conv=>whnf);try refine sG ?_)
     try rfl
    | cons s b =>
     have hz:=zay h;have ea:(a++[s]).map (age high)=a.map (age high)++[age high s]:=by simp
     have el:lost high (a++[s])=lost high a++lost high [s]:=by simp [lost]
     have hln:(lost high a).length<=a.length:=by rw [lost,zy2];exact zy27 _ _
     (conv=>whnf);refine sT ?_;refine sO ?_;refine zaj h rfl (zw ?_)
     (try refine sG ?_)
     by_cases c1:s.state=1
     . refine sT ?_
       by_cases c2:s.number<high
       . refine sT ?_
         refine sR ?_;by_cases c3:W (s.missed+1)>=3
         . have e1:age high s={s with missed:=W (s.missed+1),state:=3}:=by rw [age,zy1 ⟨c1,c2⟩,zy1 c3]
           have e2:lost high [s]=[s.number]:=by simp [lost,c1,c2,c3]
           refine sT ?_;refine zaa (c:=(((lost high a).map fun n=>[pi n]).length+1)*8<=140737488355328) zz6 (zw ?_);refine zaa (c:=(((a.map (age high)).map zbo.row).length+1)*200<=140737488355328) om (zw ?_);refine sF ?_;exact ⟨⟨(a++[s],b),zae h⟩,(zax [(900,some 900),(901,some 901),(902,some 130),(903,some 126)] (by repeat' (first | exact z0 | refine z1 ?_ | refine ⟨?_,?_⟩ | ((refine zbc (f:=zbo.row) ea ?_;rw [e1];rfl)) | ((rw [el,e2];exact (zek (f:=fun n=>[pi n]) rfl).symm)) | exact z2))),by simp⟩
         . have e1:age high s={s with missed:=W (s.missed+1)}:=by rw [age,zy1 ⟨c1,c2⟩,zy0 c3]
           have e2:lost high [s]=[]:=by simp [lost,c1,c2,c3]
           exact yy37
       . have e1:age high s=s:=by rw [age,zy0 fun h=>c2 h.2]
         have e2:lost high [s]=[]:=by simp [lost,c2]
         exact yy37
     . have e1:age high s=s:=by rw [age,zy0 fun h=>c1 h.1]
       have e2:lost high [s]=[]:=by simp [lost,c1]
       exact yy37
   | cons s b =>
    have hz:=zay h;obtain ⟨hnum,hpa0,hpa1⟩:=hr.at h;have hnx:=hi.next hnum hc0;have hhi:=hi.h1;have hh0:=hi.h0;have hcl:=hi.zgz;have hol:out.length<=a.length:=by have:=hi.out;dsimp only at this;rw [this,left,zy2];exact zy27 _ _
    dsimp only at hhi hh0 hcl;have hcl:zgz.length=paths.toNat:=by rw [hcl,znf]
    have hby:=hl.bytes;rw [h,zhu,zgq] at hby;have eA:zai.live (.row 3 1 ((zgz.map fun n=>[pi n]).set s.path.toNat [pi (W (zgz[s.path.toNat]'zz0+((s.chunk.data.map zco).length:Int)))]))=ybr (yak zgz s.path s.chunk.data.length):=by
     rw [yak,ybr,zy62,zy3 (by omega),zy116,zy2]
    (conv=>whnf);refine sT ?_;refine zaj h rfl (zw ?_);by_cases g:s.number<=n
    . have hk:here c n s=true:=by rw [here];simp [g]
      refine sT ?_;by_cases q:s.state=1\/s.state=3
      . have hcm:comes c n s=true:=by rw [comes,hk,zy96];rcases q with q | q<;>rw [q]<;>rfl
        rw [zy0 (by omega),zok,zy1 hcm,zoo,zy1 hcm,zy5] at hnx;by_cases q1:s.state=1
        . refine sT ?_
          exact yy80
        . refine sN ?_
          refine sT ?_;exact yy80
      . have hcm:comes c n s=false:=by
         rw [comes,hk,zy96];simp only [not_or] at q;simp [q.1,q.2]
        rw [zy0 (by omega),zok,zy0 (by rw [hcm];decide),zoo,zy0 zz97,zy5] at hnx;have q1:s.state≠1:=fun h=>q (.inl h)
        have q2:s.state≠3:=fun h=>q (.inr h)
        refine sN ?_;refine sN ?_;refine sN ?_;refine sF ?_;exact ⟨⟨_,hnx⟩,(zax [(6,some 6),(900,some 900),(901,some 901)] zz14),by simp⟩
    . refine sN ?_
      refine sR ?_
      (refine cL ?_;refine dL (ylc c.zas _ zz0) ?_)
      by_cases hh:has c.zas (W (s.number-n))=true
      . have hk:here c n s=true:=by rw [here,hh];simp
        refine zac hh (zw ?_)
        (try refine sG ?_)
        by_cases q:s.state=1\/s.state=3
        . have hcm:comes c n s=true:=by rw [comes,hk,zy96];rcases q with q | q<;>rw [q]<;>rfl
          rw [zy1 (by omega),zok,zy1 hcm,zoo,zy1 hcm,zbp,zy1 hcm] at hnx;by_cases q1:s.state=1
          . refine sT ?_
            refine sO ?_;refine zca s.path.toNat zz0 zz0 (zw ?_);refine sR ?_;refine sO ?_;refine zca s.path.toNat zz0 zz0 (zw ?_);refine sD ?_;exact yy46
          . refine sN ?_
            refine sT ?_;refine sO ?_;refine zca s.path.toNat zz0 zz0 (zw ?_);refine sR ?_;refine sO ?_;refine zca s.path.toNat zz0 zz0 (zw ?_);refine sD ?_;exact yy46
        . have hcm:comes c n s=false:=by
           rw [comes,hk,zy96];simp only [not_or] at q;simp [q.1,q.2]
          rw [zy1 (by omega),zok,zy0 (by rw [hcm];decide),zoo,zy0 zz97,zbp,zy0 zz97] at hnx;have q1:s.state≠1:=fun h=>q (.inl h)
          have q2:s.state≠3:=fun h=>q (.inr h)
          refine sN ?_;refine sN ?_;exact yy46
      . have hk:here c n s=false:=by rw [here];simp [hh];omega
        have hcm:comes c n s=false:=by rw [comes,hk];rfl
        rw [zy1 (by omega),zok,zy0 (by rw [hcm];decide),zoo,zy0 zz97,zbp,zy0 zz97] at hnx;refine zab (by simpa using hh) (zw ?_)
        (try refine sG ?_)
        refine sT ?_;refine zaa (c:=((out.map zbo.row).length+1)*200<=140737488355328) om (zw ?_);refine sF ?_;exact ⟨⟨_,hnx⟩,(zax [(6,some 6),(900,some 900),(901,some 97)] zz82),by simp⟩
end Sco
namespace Sco
open Ser
def zfd (c:Chunk) (k at':Nat):List zdx->Nat
 | []=>at'
 | s::r=>zfd c (k+1) (if zdh c s then k else at') r
def zzr (a b:zdx):Prop:=a.stream=b.stream/\a.ordered=b.ordered/\(a.ordered=true\/a.mid=b.mid)
def U (l:List zdx):Prop:=l.Pairwise fun a b=>¬ zzr a b
theorem zgt {c:Chunk} {s:zdx}:zdh c s=true↔s.stream=c.stream/\s.ordered=c.ordered/\(c.ordered=true\/s.mid=c.mid):=by
 simp only [zdh,zy16,zy13,zy123,and_assoc]
theorem xff {c:Chunk} {s t:zdx} (h:zdh c s=true) (k:zdh c t=true):zzr s t:=by
 obtain ⟨h1,h2,h3⟩:=zgt.1 h;obtain ⟨k1,k2,k3⟩:=zgt.1 k;refine ⟨h1.trans k1.symm,h2.trans k2.symm,?_⟩;rcases h3 with h3 | h3
 . exact .inl (h2.trans h3)
 . rcases k3 with k3 | k3
   . exact .inl (h2.trans k3)
   . exact .inr (h3.trans k3.symm)
theorem zqc {c:Chunk}:∀ {l:List zdx} {k a:Nat},(∀ s∈l,zdh c s=false)->zfd c k a l=a
 | [],_,_,_=>rfl
 | s::r,k,a,h=>by
  rw [zfd,zy0 (by rw [h s (by simp)];decide)];exact zqc fun x hx=>h x zz92
theorem ynu {c:Chunk}:∀ {a b:List zdx} {k z:Nat},zfd c k z (a++b)=zfd c (k+a.length) (zfd c k z a) b
 | [],b,k,z=>rfl
 | s::r,b,k,z=>by
  rw [zy40,zfd,ynu,zfd];congr 1;simp;omega
theorem ytv {c:Chunk} {l:List zdx} (hu:U l):(zfd c 0 l.length l=l.length/\skip c l=l++[⟨c.stream,c.mid,c.ordered⟩]/\U (skip c l)) \/
 ∃ a s b,l=a++s::b/\zfd c 0 l.length l=a.length/\skip c l=a++⟨c.stream,c.mid,c.ordered⟩::b/\U (skip c l):=by
 by_cases hn:∀ s∈l,zdh c s=false
 . left
   have h1:=zmu hn [];rw [zy5] at h1;have h2:skip c l=l++[⟨c.stream,c.mid,c.ordered⟩]:=h1;refine ⟨zqc hn,h2,?_⟩;rw [h2];refine zy112.2 ⟨hu,List.pairwise_singleton _ _,fun x hx y hy=>?_⟩;rw [zy23.1 hy];rintro ⟨e1,e2,e3⟩;have:=hn x hx;have h4:zdh c x=true:=zgt.2 ⟨e1,e2,by rcases e3 with e3 | e3;exact .inl (e2.symm.trans e3);exact .inr e3⟩;rw [h4] at this;cases this
 . right
   obtain ⟨s0,hs0,hm0⟩:∃ s∈l,zdh c s=true:=by
    apply Classical.byContradiction;intro hc;exact hn fun s hs=>by
     cases hm:zdh c s with
     | false=>rfl
     | true=>exact absurd ⟨s,hs,hm⟩ hc
   have gen:∀ l:List zdx,(∃ s∈l,zdh c s=true)->∃ a s b,l=a++s::b/\zdh c s=true/\∀ x∈a,zdh c x=false:=by
    intro l
    induction l with
    | nil=>rintro ⟨s,hs,_⟩;simp at hs
    | cons x r ih =>
     rintro ⟨s,hs,hm⟩;cases hx:zdh c x with
     | true=>exact ⟨[],x,r,rfl,hx,by simp⟩
     | false =>
      have:∃ s∈r,zdh c s=true:=by
       rcases zy14.1 hs with rfl | hs
       . rw [hx] at hm;cases hm
       . exact ⟨s,hs,hm⟩
      obtain ⟨a,t,b,h1,h2,h3⟩:=ih this;refine ⟨x::a,t,b,by rw [h1];rfl,h2,fun y hy=>?_⟩;rcases zy14.1 hy with rfl | hy
      . exact hx
      . exact h3 y hy
   obtain ⟨a,s,b,rfl,hm,ha⟩:=gen l ⟨s0,hs0,hm0⟩;obtain ⟨u1,u2,u3⟩:=zy112.1 hu;obtain ⟨u4,u5⟩:=zy126.1 u2;have hb:∀ x∈b,zdh c x=false:=by
    intro x hx;cases hxm:zdh c x with
    | false=>rfl
    | true=>exact absurd (xff hm hxm) (u4 x hx)
   obtain ⟨m1,m2,m3⟩:=zgt.1 hm;have h2:skip c (a++s::b)=a++⟨c.stream,c.mid,c.ordered⟩::b:=by
    rw [zmu ha,skip,zy1 hm,m1,m2]
   have tr:∀ x:zdx,zzr ⟨c.stream,c.mid,c.ordered⟩ x->zzr s x:=by
    rintro x ⟨e1,e2,e3⟩;refine ⟨m1.trans e1,m2.trans e2,?_⟩;rcases e3 with e3 | e3
    . exact .inl (m2.trans e3)
    . rcases m3 with m3 | m3
      . exact .inl (m2.trans m3)
      . exact .inr (m3.trans e3)
   have sy:∀ x y:zdx,zzr x y->zzr y x:=fun x y ⟨e1,e2,e3⟩=>⟨e1.symm,e2.symm,by rcases e3 with e3 | e3;exact .inl (e2.symm.trans e3);exact .inr e3.symm⟩
   refine ⟨a,s,b,rfl,?_,h2,?_⟩
   . rw [ynu,zqc ha,zfd,zy1 hm,zqc hb];omega
   . rw [h2]
     refine zy112.2 ⟨u1,zy126.2 ⟨fun x hx h=>u4 x hx (tr x h),u5⟩,fun x hx y hy=>?_⟩;rcases zy14.1 hy with rfl | hy
     . intro h;exact u3 x hx s zz5 (sy _ _ (tr _ (sy _ _ h)))
     . exact u3 x hx y zz126
theorem zll (l:List zbo) (cum:Int) (hl:l.length<2 ^ 38):zan Tryz.prog 89 [zdz l,i64 cum] zad (.tup [i64 (zdy l cum).1,zbr (zdy l cum).2]) zad:=by
 refine zal mixed Tryz.func89 zz4 ?_;generalize hR:zdy l cum=R;(conv=>whnf);refine ⟨{x:List zbo×List zbo×Int×List zdx // l=x.1++x.2.1/\x.2.2.2.length<=8/\zeu x.2.2.1 x.2.2.2 x.2.1=R/\U x.2.2.2},fun | ⟨(a,b,z,sk),_⟩=>hs 107 [(1,i64 z),(6,.own 900),(14,zdz l),(15,i64 l.length),(16,i64 a.length)] [(900,yhs sk)],fun x=>x.1.2.1.length,⟨([],l,cum,[]),rfl,by simp,hR,List.Pairwise.nil⟩,?_,?_⟩
 . exact (zbe [(900,none)])
 rintro ⟨⟨a,b,z,sk⟩,h,hsk,hi,hu⟩;dsimp only at h hsk hi hu;cases b with
 | nil =>
  have hz:=zbk h;simp only [zeu] at hi;subst hi;(conv=>whnf)
  ((refine yun ?_;conv=>whnf);try refine sG ?_)
  try rfl
 | cons s b =>
  have hz:=zay h;simp only [zeu] at hi;have fs:=ytv (c:=s.chunk) hu;have sl:=yco s.chunk sk;(conv=>whnf);refine sT ?_;refine zaj h rfl (zw ?_);by_cases c2:s.state=4
  . refine sN ?_
    refine sR ?_;by_cases c1:s.number=W (z+1)
    . rw [zy0 (by rintro (h1 | h1);exact h1 c1;exact h1.1 c2),zy1 c2] at hi
      refine sN ?_;refine sT ?_;generalize hA:zfd s.chunk 0 sk.length sk=A at fs;refine ⟨{x:List zdx×List zdx×Nat // sk=x.1++x.2.1/\zfd s.chunk x.1.length x.2.2 x.2.1=A},fun | ⟨(c,d,t),_⟩=>hs 107 [(1,i64 z),(6,.own 900),(9,.ptr 9 0),(10,i64 t),(14,zdz l),(15,i64 l.length),(16,i64 a.length),(44,.own 900),(45,i64 sk.length),(46,i64 c.length)] [(9,.live (.cells 61 s.chunk.cells)),(900,yhs sk)],fun x=>x.1.2.1.length,⟨([],sk,sk.length),rfl,hA⟩,?_,?_⟩
      . exact (zbe [(9,some 9),(900,some 900)])
      rintro ⟨⟨c,d,t⟩,hcd,hlast⟩;dsimp only at hcd hlast;cases d with
      | nil =>
       have hz2:=zbk hcd;simp only [zfd] at hlast;subst hlast;(conv=>whnf);refine sN ?_;rcases fs with ⟨f1,f2,f3⟩ | ⟨p,y,q,f0,f1,f2,f3⟩
       . have f4:(skip s.chunk sk).length=sk.length+1:=by rw [f2];simp
         by_cases c8:sk.length=8
         . rw [zy1 (by omega)] at hi
           subst hi
           ((refine yqj ?_;conv=>whnf);try refine sG ?_)
           try rfl
         . rw [zy0 (by omega)] at hi
           refine sN ?_;refine zaa (c:=(([]:List (List PV)).length+(sk.map zdx.row).length)*24<=140737488355328) om (zw ?_)
           (try refine sG ?_)
           refine sT ?_;refine zaa (c:=((([]:List (List PV))++sk.map zdx.row).length+1)*24<=140737488355328) zz3 (zw ?_);refine sO ?_;refine zcd (r:=[pi 0,pi 0,pb false]) ?_ ?_ ?_
           . omega
           . rw [f1]
             show ([]++sk.map zdx.row++[[pi 0,pi 0,pb false]])[_]?=_;rw [zy58,zy44 (by simp)];simp
           (conv=>whnf);have e1:zai.live (.row 180 3 ((sk.map zdx.row++[[pi 0,pi 0,pb false]]).set t [pi s.chunk.stream,pi s.chunk.mid,pb s.chunk.ordered]))=yhs (skip s.chunk sk):=by
            rw [f2,f1];have:=(zei (t:=180) (n:=3) (f:=zdx.row) (a:=sk) (b:=[]) (x:=⟨0,0,false⟩) (y:=⟨s.chunk.stream,s.chunk.mid,s.chunk.ordered⟩) (k:=sk.length) (r:=[pi s.chunk.stream,pi s.chunk.mid,pb s.chunk.ordered]) rfl rfl).symm;rw [zy34] at this;exact this
           refine sR ?_;refine sF ?_;exact ⟨⟨(a++[s],b,W (z+1),skip s.chunk sk),zae h,by dsimp only;omega,by rw [<- c1];exact hi,f3⟩,(zax [(900,some 90)] zz108),by simp⟩
       . have f4:(skip s.chunk sk).length=sk.length:=by rw [f2,f0];simp
         have f5:sk.length=p.length+q.length+1:=by rw [f0];simp;omega
         rw [zy0 (by omega)] at hi;refine sN ?_;refine zaa (c:=(([]:List (List PV)).length+(sk.map zdx.row).length)*24<=140737488355328) om (zw ?_)
         (try refine sG ?_)
         refine sN ?_;refine sO ?_;refine zaj (f:=zdx.row) (l:=sk) (a:=p) (b:=q) (s:=y) f0 (by rw [f1];simp) (zw ?_);have e1:zai.live (.row 180 3 ((sk.map zdx.row).set t [pi s.chunk.stream,pi s.chunk.mid,pb s.chunk.ordered]))=yhs (skip s.chunk sk):=by
          rw [f2,f0,f1];exact (zei (f:=zdx.row) (a:=p) (b:=q) (x:=y) (y:=⟨s.chunk.stream,s.chunk.mid,s.chunk.ordered⟩) rfl rfl).symm
         refine sR ?_;refine sF ?_;exact ⟨⟨(a++[s],b,W (z+1),skip s.chunk sk),zae h,by dsimp only;omega,by rw [<- c1];exact hi,f3⟩,(zax [(900,some 82)] zz108),by simp⟩
      | cons x d =>
       have hz2:=zay hcd;simp only [zfd] at hlast;(conv=>whnf);refine sT ?_;refine sO ?_;refine zaj hcd rfl (zw ?_);refine zah (fun k1=>?_) (fun k1=>?_)
       . conv=>whnf
         refine zah (fun k2=>?_) (fun k2=>?_)
         . conv=>whnf
           have e2:x.ordered=s.chunk.ordered:=by simpa using k2
           refine zah (fun k3=>?_) (fun k3=>?_)
           . have hm:zdh s.chunk x=true:=zgt.2 ⟨by simpa using k1,e2,.inl (by rw [<- e2];exact k3)⟩
             exact yy122
           . conv=>whnf
             refine zah (fun k4=>?_) (fun k4=>?_)
             . have hm:zdh s.chunk x=true:=zgt.2 ⟨by simpa using k1,e2,.inr (by simpa using k4)⟩
               exact yy122
             . have hm:¬ zdh s.chunk x=true:=by
                intro h;obtain ⟨_,_,h3⟩:=zgt.1 h;rcases h3 with h3 | h3
                . rw [e2,h3] at k3;cases k3
                . simp [h3] at k4
               exact yy65
         . have hm:¬ zdh s.chunk x=true:=by
            intro h;obtain ⟨_,h3,_⟩:=zgt.1 h;simp [h3] at k2
           exact yy65
       . have hm:¬ zdh s.chunk x=true:=by
          intro h;obtain ⟨h3,_,_⟩:=zgt.1 h;simp [h3] at k1
         exact yy65
    . rw [zy1 (.inl c1)] at hi
      subst hi
      ((refine yqj ?_;conv=>whnf);try refine sG ?_)
      try rfl
  . refine sT ?_
    by_cases c3:s.state=2
    . refine sN ?_
      refine sR ?_;by_cases c1:s.number=W (z+1)
      . rw [zy0 (by rintro (h1 | h1);exact h1 c1;exact h1.2 c3),zy0 c2] at hi
        refine sN ?_;refine sN ?_;refine sR ?_;refine sF ?_;exact ⟨⟨(a++[s],b,W (z+1),sk),zae h,hsk,by rw [<- c1];exact hi,hu⟩,(zbe [(900,some 900)]),by simp⟩
      . rw [zy1 (.inl c1)] at hi
        subst hi
        ((refine yqj ?_;conv=>whnf);try refine sG ?_)
        try rfl
    . rw [zy1 (.inr ⟨c2,c3⟩)] at hi
      subst hi
      ((refine yqj ?_;conv=>whnf);try refine sG ?_)
      try rfl
end Sco
namespace Snd
open Ser
abbrev scS (s:zag):zai:=.live (.cells 32 (ycq s (Sch.qs s.queue) (ints s.sched.had) (Sco.zdz s.out) (zpe s.paths) (ints s.mids) (ints s.fates)))
abbrev sc0:zai:=.live (.cells 32 ylu)
theorem zoh (s:zag) (ho:Sco.zev s.out) (hp:s.paths.length<2 ^ 22) :
 zan Tryz.prog 86 [s.hv] zad (.agg (ycq (zck s) (Sch.qs (zck s).queue) (ints (zck s).sched.had) (Sco.zdz (zck s).out) (.own 0) (ints (zck s).mids) (ints (zck s).fates))) (lk .free [(0,yyv (zck s).paths)]):=by
 show zan Tryz.prog 86 [s.hv] zad (.agg (ycq s (Sch.qs s.queue) (ints s.sched.had) (Sco.zdz s.out) (.own 0) (ints s.mids) (ints s.fates))) (lk .free [(0,yyv (zck s).paths)]);have hF:(zck s).paths=s.paths.mapIdx fun i p=>flP s.out i p:=rfl
 generalize (zck s).paths=F at hF ⊢;refine zaq mixed Tryz.func86 zz4 [] (fun _=>.inl rfl) ?_;(conv=>whnf);refine ⟨{x:List Path×List Path // s.paths=x.1++x.2},fun | ⟨(A,B),_⟩=>hs 27 [(1,.ptr 1 0),(2,.ptr 2 0),(3,.own 900),(7,zpe s.paths),(8,i64 s.paths.length),(9,i64 A.length)] [(1,scS s),(2,sc0),(900,yyv (A.mapIdx fun i p=>flP s.out i p))],fun x=>x.1.2.length,⟨([],s.paths),rfl⟩,?_,?_⟩
 . exact (zbe [(1,some 1),(2,some 2),(900,none)])
 rintro ⟨⟨A,B⟩,h⟩;dsimp only at h;(conv=>whnf);cases B with
 | cons p B =>
  have hz:=zay h;refine sT ?_;refine zaj h rfl (zw ?_)
  (refine cL ?_;refine dL (Sco.yij s.out A.length ho) ?_)
  refine zaa (c:=(((A.mapIdx fun i p=>flP s.out i p).map Path.row).length+1)*56<=140737488355328) zz3 (zw ?_);refine sF ?_;refine ⟨⟨(A++[p],B),zae h⟩,(zax [(1,some 1),(2,some 2),(900,some 22)] (by repeat' (first | exact z0 | refine z1 ?_ | refine ⟨?_,?_⟩ | ((exact zbc (f:=Path.row) zy102 rfl)) | exact z2))),by simp⟩
 | nil =>
  have hz:=zbk h;rw [zy5] at h;refine sN ?_;refine zap [(0,some 900)] rfl rfl trivial rfl rfl ⟨⟨rfl,.inl ⟨900,rfl,?_⟩⟩,trivial⟩;exact zar (by rw [hF,h])
theorem ydb (s:zag) (ho:Sco.zev s.out) (hp:s.paths.length<2 ^ 22):zan Tryz.prog 86 [s.hv] zad (zck s).hv zad:=by
 refine zcn Tryz.func86 (zoh s ho hp) ?_;(conv=>whnf)
 rfl
theorem zol {N:Nat} {p:zew} {i path:Nat} {x:zbo} {w:Path} (hS:SI N (fly p i path).s) (hx:p.s.out[i]?=some x) (hw:p.s.paths[path]?=some w) :
 zck {p.s with out:=p.s.out.set i (zsz x path)}=(fly p i path).s:=by
 have hF:=hS.zba;have e:(fly p i path).s={p.s with out:=p.s.out.set i (zsz x path),paths:=p.s.paths.set path {w with zba:=W (w.zba+x.chunk.data.length)}}:=by
  simp only [fly,hx,setAt,hw]
 rw [e] at hF ⊢;dsimp only at hF;have hl:=(zy8.1 hw).1;unfold zck;dsimp only;congr 1;apply zy82;intro j;rw [zy90];by_cases hj:j=path
 . subst hj
   have h2:=hF j {w with zba:=W (w.zba+x.chunk.data.length)} (zy41 hl);rw [zy41 hl,hw];dsimp only at h2;show some (flP _ j w)=_;unfold flP;rw [h2]
 . rw [zy91 (Ne.symm hj)]
   cases hp:p.s.paths[j]? with
   | none=>rfl
   | some a =>
    have h2:=hF j a (by rw [zy91 (Ne.symm hj)];exact hp);show some (flP _ j a)=_;unfold flP;rw [<- h2]
theorem zjb (s:zag) (ho:Sco.zev s.out) (hp:s.paths.length<2 ^ 22) {rows:List (List PV)} (hr:rows=s.out.map zbo.row) :
 zan Tryz.prog 86 [.agg (ycq s (Sch.qs s.queue) (ints s.sched.had) (.p (.sl 20 rows)) (zpe s.paths) (ints s.mids) (ints s.fates))] zad (zck s).hv zad:=by
 subst hr;exact ydb s ho hp
end Snd
namespace Snd
open Ser
theorem yek {id:Int} {s:zag} {m:zak} (h:¬ (m.id=id/\m.parts>0)):zfb id s m=s:=zy0 h
theorem xds {id:Int} {s:zag} {m:zak} (h:m.id=id/\m.parts>0):zfb id s m={s with out:=s.out++[zpp s.next m],next:=W (s.next+1)}:=zy1 h
abbrev rgC (s u:zag) (_:Nat) (q o:HV):zai:=.live (.cells 32 (ycq {s with next:=u.next} q (ints s.sched.had) o (zpe s.paths) (ints s.mids) (.own 901)))
theorem yab {N:Nat} (s:zag) (id:Nat) (hS:SI N s) (hid:id<s.fates.length):zan Tryz.prog 99 [s.hv,i64 id] zad (zfc s id).hv zad:=by
 have hg:=(yjv hS hid).fit;obtain ⟨h1,h2,h3,h4,h5,h6,h7⟩:=hS.fit;have ho1:=h3.len;have hgo:=zuc s id;have hk:=znh id s.queue {s with fates:=s.fates.set id 3};have hso:=(yay id s.queue {s with fates:=s.fates.set id 3}).1;generalize hU:s.queue.foldl (zfb id) {s with fates:=s.fates.set id 3}=U at hk hso;have hG:(zck {U with queue:=s.queue.filter fun m=>decide (m.id≠(id:Int)),sched:=if s.sched.hand=id then {s.sched with hand:=-1} else s.sched,out:=U.out.map (Sco.zgr id),forward:=true})=zfc s id:=by rw [<- hU];rfl
 rw [hU] at hgo;generalize zfc s id=G at hG hg hgo ⊢;obtain ⟨f0,hf0⟩:∃ f0,s.fates[id]?=some f0:=⟨_,zy3 hid⟩
 refine zal mixed Tryz.func99 zz4 ?_;(conv=>whnf);refine zaa (c:=(([]:List (List PV)).length+(s.fates.map fun n=>[pi n]).length)*8<=140737488355328) zz3 (zw ?_);refine sOm ?_;refine zam (l:=s.fates) hf0 rfl (zw ?_);refine zaa (c:=(([]:List (List PV)).length+(s.out.map zbo.row).length)*200<=140737488355328) zz3 (zw ?_);refine ⟨{x:(List zak×List zak)×zag // s.queue=x.1.1++x.1.2/\x.1.1.foldl (zfb id) {s with fates:=s.fates.set id 3}=x.2/\x.2.out.length<=s.out.length+x.1.1.length},
  fun | ⟨((A,B),u),_⟩=>hs 108 [(1,i64 id),(2,.ptr 2 0),(4,.ptr 4 0),(6,.own 900),(7,.own 902),(25,Sch.qs s.queue),(26,i64 s.queue.length),(27,i64 A.length)] [(2,rgC s u id (Sch.qs s.queue) (Sco.zdz s.out)),(4,sc0),(900,xcx (A.filter fun m=>decide (m.id≠(id:Int)))),(901,zxu (s.fates.set id 3)),(902,xfy u.out)],fun x=>x.1.1.2.length,⟨(([],s.queue),{s with fates:=s.fates.set id 3}),rfl,rfl,by simp⟩,?_,?_⟩
 . exact (zax [(2,some 2),(4,some 4),(900,none),(901,some 14),(902,some 23)] (by repeat' (first | exact z0 | refine z1 ?_ | refine ⟨?_,?_⟩ | ((exact zar (by simp [zy62]))) | exact z2)))
 rintro ⟨⟨⟨A,B⟩,u⟩,h,hu,hl⟩;dsimp only at h hu hl;have hql:s.queue.length=A.length+B.length:=by rw [h];simp
 (conv=>whnf);cases B with
 | cons m B =>
  have hz:=zay h;have hun:(A++[m]).foldl (zfb id) {s with fates:=s.fates.set id 3}=zfb id u m:=by rw [zy59,hu];rfl
  have hAl:(A++[m]).length=A.length+1:=by simp
  refine sT ?_;refine zaj h rfl (zw ?_);by_cases c1:m.id=(id:Int)
  case neg =>
   have hsk:zfb id u m=u:=yek fun h=>c1 h.1
   have hfl:(A++[m]).filter (fun m=>decide (m.id≠(id:Int)))=A.filter (fun m=>decide (m.id≠(id:Int)))++[m]:=by rw [zy45];simp [c1]
   rw [hsk] at hun;refine zac zz39 ?_;conv=>whnf
   have hfa:(A.filter fun m=>decide (m.id≠(id:Int))).length<=A.length:=zy27 _ _;refine zaa (c:=(((A.filter fun m=>decide (m.id≠(id:Int))).map zak.row).length+1)*96<=140737488355328) zz6 (zw ?_);refine sF ?_;exact ⟨⟨((A++[m],B),u),zae h,hun,by dsimp only;omega⟩,(zax [(2,some 2),(4,some 4),(900,some 38),(901,some 901),(902,some 902)] (by repeat' (first | exact z0 | refine z1 ?_ | refine ⟨?_,?_⟩ | ((exact zbc (f:=zak.row) hfl rfl)) | exact z2))),by simp⟩
  have hfl:(A++[m]).filter (fun m=>decide (m.id≠(id:Int)))=A.filter (fun m=>decide (m.id≠(id:Int))):=by rw [zy45];simp [c1]
  refine zab zz39 (zw ?_);by_cases c2:m.parts>0
  case neg =>
   have hsk:zfb id u m=u:=yek fun h=>c2 h.2
   rw [hsk] at hun;refine zab zz29 (zw ?_)
   (try refine sG ?_)
   refine sF ?_;exact ⟨⟨((A++[m],B),u),zae h,hun,by dsimp only;omega⟩,(zax ((2,some 2)::((4,some 4)::(pJ3 []))) (by repeat' (first | exact z0 | refine z1 ?_ | refine ⟨?_,?_⟩ | ((rw [hfl])) | exact z2))),by simp⟩
  have hgo1:=xds (s:=u) ⟨c1,c2⟩;rw [hgo1] at hun;refine zac zz29 ?_;conv=>whnf
  (refine cL ?_;refine dL (zcu _) ?_)
  (refine cL ?_;refine dL (zcu _) ?_)
  refine zaa (c:=((u.out.map zbo.row).length+1)*200<=140737488355328) zz6 (zw ?_);refine sD ?_;refine sR ?_;refine sF ?_;exact ⟨⟨((A++[m],B),{u with out:=u.out++[zpp u.next m],next:=W (u.next+1)}),zae h,hun,by simp;omega⟩,(zax [(2,some 2),(4,some 4),(900,some 900),(901,some 901),(902,some 63)] (by repeat' (first | exact z0 | refine z1 ?_ | refine ⟨?_,?_⟩ | ((rw [hfl])) | ((exact zbc (f:=zbo.row) rfl (by rw [<- c1];rfl))) | exact z2))),by simp⟩
 | nil =>
 have hz:=zbk h;rw [zy5] at h;subst h;rw [hU] at hu;subst hu;refine sN ?_;refine ⟨{x:List zbo×List zbo // U.out=x.1++x.2},
  fun | ⟨(a,b),_⟩=>hs 108 [(1,i64 id),(2,.ptr 2 0),(4,.ptr 4 0),(6,.own 900),(7,.own 902),(70,i64 U.out.length),(71,i64 a.length)] [(2,rgC s U id (Sch.qs s.queue) (Sco.zdz s.out)),(4,sc0),(900,xcx (s.queue.filter fun m=>decide (m.id≠(id:Int)))),(901,zxu (s.fates.set id 3)),(902,xfy (a.map (Sco.zgr id)++b))],fun x=>x.1.2.length,⟨([],U.out),rfl⟩,?_,?_⟩
 . exact (zbe ((2,some 2)::((4,some 4)::(pJ3 []))))
 rintro ⟨⟨a,b⟩,h'⟩;dsimp only at h';(conv=>whnf);cases b with
 | cons y b =>
  have hz':=zay h';have hm:a.length=(a.map (Sco.zgr id)).length:=by simp
  have e0:(a++[y]).map (Sco.zgr id)++b=a.map (Sco.zgr id)++Sco.zgr id y::b:=by simp
  refine sT ?_;refine sO ?_;refine zaj (a:=a.map (Sco.zgr id)) (b:=b) (s:=y) rfl zz5 (zw ?_);by_cases d1:y.id=(id:Int)
  case neg =>
   have e1:Sco.zgr id y=y:=zy0 fun h=>d1 h.1
   rw [show (y.id==(id:Int))=false from zy4.2 d1];(conv=>whnf);exact yy139
  rw [show (y.id==(id:Int))=true from zy13.2 d1];(conv=>whnf);refine sO ?_;refine zaj (a:=a.map (Sco.zgr id)) (b:=b) (s:=y) rfl zz5 (zw ?_);by_cases d2:y.state=2
  case pos =>
   have e1:Sco.zgr id y=y:=zy0 fun h=>h.2 d2
   refine zab zz154 (zw ?_);exact yy139
  have e1:Sco.zgr id y={y with state:=4}:=zy1 ⟨d1,d2⟩;refine zac zz154 (zw ?_);refine sO ?_;refine zaj (a:=a.map (Sco.zgr id)) (b:=b) (s:=y) rfl zz5 (zw ?_);refine sF ?_;exact ⟨⟨(a++[y],b),zae h'⟩,(zax ((2,some 2)::((4,some 4)::(pJ3 []))) zz26),by simp⟩
 | nil =>
 have hz':=zbk h';rw [zy5] at h';subst h';have hsz:=hgo ▸ hg.out;have hV:zck {s with fates:=s.fates.set id 3,next:=U.next,queue:=s.queue.filter fun m=>decide (m.id≠(id:Int)),sched:=if s.sched.hand=id then {s.sched with hand:=-1} else s.sched,out:=U.out.map (Sco.zgr id),forward:=true}=G:=by
  rw [<- hG];conv=>rhs;rw [hk]
 have hp:=zjb (rows:=(U.out.map (Sco.zgr id)++[]).map zbo.row) {s with fates:=s.fates.set id 3,next:=U.next,queue:=s.queue.filter fun m=>decide (m.id≠(id:Int)),sched:=if s.sched.hand=id then {s.sched with hand:=-1} else s.sched,out:=U.out.map (Sco.zgr id),forward:=true} hsz h4 zz156;rw [hV] at hp;refine sN ?_;by_cases c3:s.sched.hand=(id:Int)
 case pos =>
  rw [zy1 c3] at hp;rw [show (s.sched.hand==(id:Int))=true from zy13.2 c3];conv=>whnf
  exact yy147
 case neg =>
  rw [zy0 c3] at hp;rw [show (s.sched.hand==(id:Int))=false from zy4.2 c3];conv=>whnf
  exact yy147
end Snd
end Go.HL
