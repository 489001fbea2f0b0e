/- Walks, contracts and laws of the law's functions: part 5. No condition. -/
import Derived.Test.YticmofoeecjnhaaGreatMd
open Go.Proofs
set_option maxHeartbeats 32000000
set_option maxRecDepth 100000
set_option linter.unusedSimpArgs false
theorem yy33 {P:Prop} (h:P:=by
 refine sT ?_
 refine zaa (c:=((out.map Sent.row).length+1) * 200 <= 140737488355328) om ?_;conv=>whnf
 refine sF ?_
 exact ⟨⟨_,hnx⟩,(hle_X [(6,some 6),(900,some 900),(901,some 115),(902,some 902)] (by repeat' (first | exact z0 | refine z1 ?_ | refine ⟨?_,?_⟩ | (exact (zda (f:=Sent.row) rfl).symm) | (exact eA) | (exact zaw emx.symm) | exact z2))),by simp⟩):P:=h
theorem yy56 {P:Prop} (h:P:=by
 (repeat' (first | refine sT ?_ | refine sN ?_))
 refine sO ?_
 refine zbe s.path.toNat (by omega) (by omega) ?_;conv=>whnf
 refine sR ?_
 refine sO ?_
 refine zbe s.path.toNat (by omega) (by omega) ?_;conv=>whnf
 refine sD ?_
 refine sN ?_
 refine sF ?_
 exact ⟨⟨_,hnx⟩,(hle_X ((6,some 6) :: (pJ3 [])) (by repeat' (first | exact z0 | refine z1 ?_ | refine ⟨?_,?_⟩ | (exact eA) | (exact zaw emx.symm) | exact z2))),by simp⟩):P:=h
theorem yy88 {P:Prop} (h:P:=by
 refine sT ?_
 refine sF ?_
 exact ⟨⟨(a++[s],b),zag h⟩,(hle_X [(900,some 900),(901,some 901),(903,some 903)] (by repeat' (first | exact z0 | refine z1 ?_ | refine ⟨?_,?_⟩ | ((rw [ea,e1];rfl)) | ((rw [el,e2,List.append_nil];rfl)) | exact z2))),by simp⟩):P:=h
theorem yy91 {P:Prop} (h:P:=by
 (refine zao [(0,46)]  ?_;(conv=>whnf);refine dO (zci l hl) ?_)
 exact zak [(0,some 46),(1,some 900),(2,none)] rfl rfl trivial rfl rfl ⟨⟨rfl,.inl ⟨46,rfl,rfl⟩⟩,⟨rfl,.inl ⟨900,rfl,rfl⟩⟩,⟨rfl,.inr ⟨rfl,rfl⟩⟩,trivial⟩):P:=h
theorem yy107 {P:Prop} (h:P:=by
 rw [addAt,intB,List.map_set,List.getElem?_eq_getElem (by omega),Option.getD_some,List.length_map]):P:=h
theorem yy111 {P:Prop} (h:P:=by
 conv=>whnf
 exact ⟨⟨⟩,(hle_X [(6,some 6),(900,some 21)] (by repeat' (first | exact z0 | refine z1 ?_ | refine ⟨?_,?_⟩ | (exact zaw (by omega)) | (exact e21) | exact z2)))⟩):P:=h
theorem yy3 {P:Prop} (h:P:=by
 (refine zae [] [(1000,932)] [(0,960)] ?_;(conv=>whnf);refine dG (Sco.zdm t.out t.cum (by have:=hft.out.len;omega)) ?_)
 cases mv with
 | false =>
  rw [show zer false t=t from if_neg (fun h=>absurd h.1 (by decide))] at hT
  subst hT
  conv=>whnf
  (refine zae [] [(1000,5),(1001,930),(1002,931),(1003,932),(1004,933),(1005,934),(1006,935)] [(0,980),(1,981),(2,982),(3,983),(4,984),(5,985)] ?_;(conv=>whnf);refine dG (zcz t (hft)) ?_ ⟨rfl,rfl,rfl,⟨⟨rfl,_,rfl,.inl ⟨rfl,rfl⟩⟩,⟨⟨rfl,_,rfl,.inl ⟨rfl,rfl⟩⟩,⟨⟨rfl,_,rfl,.inl ⟨rfl,rfl⟩⟩,⟨⟨rfl,_,rfl,.inl ⟨rfl,rfl⟩⟩,⟨⟨rfl,_,rfl,.inl ⟨rfl,rfl⟩⟩,⟨⟨rfl,_,rfl,.inl ⟨rfl,rfl⟩⟩,⟨⟨rfl,_,rfl,.inl ⟨rfl,rfl⟩⟩,trivial⟩⟩⟩⟩⟩⟩⟩,⟨⟨rfl,rfl⟩,⟨⟨rfl,rfl⟩,⟨⟨rfl,rfl⟩,⟨⟨rfl,rfl⟩,⟨⟨rfl,rfl⟩,⟨⟨rfl,rfl⟩,trivial⟩⟩⟩⟩⟩⟩,rfl,rfl,rfl⟩)
  refine zak [(0,some 980),(1,some 981),(2,some 982),(3,some 983),(4,some 984),(5,some 985)] rfl rfl trivial rfl rfl ⟨⟨rfl,.inl ⟨980,rfl,rfl⟩⟩,⟨rfl,.inl ⟨981,rfl,rfl⟩⟩,⟨rfl,.inl ⟨982,rfl,rfl⟩⟩,⟨rfl,.inl ⟨983,rfl,rfl⟩⟩,⟨rfl,.inl ⟨984,rfl,rfl⟩⟩,⟨rfl,.inl ⟨985,rfl,rfl⟩⟩,trivial⟩
 | true =>
  conv=>whnf
  by_cases e1:(Sco.point t.out t.cum).1 > t.cum
  case pos =>
   rw [show zer true t={ t with forward:=true } from if_pos ⟨rfl,e1⟩] at hT
   subst hT
   rw [show decide ((Sco.point t.out t.cum).1 > t.cum)=true from decide_eq_true e1]
   conv=>whnf
   (refine zae [] [(1000,5),(1001,930),(1002,931),(1003,932),(1004,933),(1005,934),(1006,935)] [(0,980),(1,981),(2,982),(3,983),(4,984),(5,985)] ?_;(conv=>whnf);refine dG (zcz ({ t with forward:=true }:Sender) ((Fit.fwd hft))) ?_ ⟨rfl,rfl,rfl,⟨⟨rfl,_,rfl,.inl ⟨rfl,rfl⟩⟩,⟨⟨rfl,_,rfl,.inl ⟨rfl,rfl⟩⟩,⟨⟨rfl,_,rfl,.inl ⟨rfl,rfl⟩⟩,⟨⟨rfl,_,rfl,.inl ⟨rfl,rfl⟩⟩,⟨⟨rfl,_,rfl,.inl ⟨rfl,rfl⟩⟩,⟨⟨rfl,_,rfl,.inl ⟨rfl,rfl⟩⟩,⟨⟨rfl,_,rfl,.inl ⟨rfl,rfl⟩⟩,trivial⟩⟩⟩⟩⟩⟩⟩,⟨⟨rfl,rfl⟩,⟨⟨rfl,rfl⟩,⟨⟨rfl,rfl⟩,⟨⟨rfl,rfl⟩,⟨⟨rfl,rfl⟩,⟨⟨rfl,rfl⟩,trivial⟩⟩⟩⟩⟩⟩,rfl,rfl,rfl⟩)
   refine zak [(0,some 980),(1,some 981),(2,some 982),(3,some 983),(4,some 984),(5,some 985)] rfl rfl trivial rfl rfl ⟨⟨rfl,.inl ⟨980,rfl,rfl⟩⟩,⟨rfl,.inl ⟨981,rfl,rfl⟩⟩,⟨rfl,.inl ⟨982,rfl,rfl⟩⟩,⟨rfl,.inl ⟨983,rfl,rfl⟩⟩,⟨rfl,.inl ⟨984,rfl,rfl⟩⟩,⟨rfl,.inl ⟨985,rfl,rfl⟩⟩,trivial⟩
  case neg =>
   rw [show zer true t=t from if_neg (fun h=>e1 h.2)] at hT
   subst hT
   rw [show decide ((Sco.point t.out t.cum).1 > t.cum)=false from decide_eq_false e1]
   conv=>whnf
   (refine zae [] [(1000,5),(1001,930),(1002,931),(1003,932),(1004,933),(1005,934),(1006,935)] [(0,980),(1,981),(2,982),(3,983),(4,984),(5,985)] ?_;(conv=>whnf);refine dG (zcz t (hft)) ?_ ⟨rfl,rfl,rfl,⟨⟨rfl,_,rfl,.inl ⟨rfl,rfl⟩⟩,⟨⟨rfl,_,rfl,.inl ⟨rfl,rfl⟩⟩,⟨⟨rfl,_,rfl,.inl ⟨rfl,rfl⟩⟩,⟨⟨rfl,_,rfl,.inl ⟨rfl,rfl⟩⟩,⟨⟨rfl,_,rfl,.inl ⟨rfl,rfl⟩⟩,⟨⟨rfl,_,rfl,.inl ⟨rfl,rfl⟩⟩,⟨⟨rfl,_,rfl,.inl ⟨rfl,rfl⟩⟩,trivial⟩⟩⟩⟩⟩⟩⟩,⟨⟨rfl,rfl⟩,⟨⟨rfl,rfl⟩,⟨⟨rfl,rfl⟩,⟨⟨rfl,rfl⟩,⟨⟨rfl,rfl⟩,⟨⟨rfl,rfl⟩,trivial⟩⟩⟩⟩⟩⟩,rfl,rfl,rfl⟩)
   refine zak [(0,some 980),(1,some 981),(2,some 982),(3,some 983),(4,some 984),(5,some 985)] rfl rfl trivial rfl rfl ⟨⟨rfl,.inl ⟨980,rfl,rfl⟩⟩,⟨rfl,.inl ⟨981,rfl,rfl⟩⟩,⟨rfl,.inl ⟨982,rfl,rfl⟩⟩,⟨rfl,.inl ⟨983,rfl,rfl⟩⟩,⟨rfl,.inl ⟨984,rfl,rfl⟩⟩,⟨rfl,.inl ⟨985,rfl,rfl⟩⟩,trivial⟩):P:=h
theorem yy7 {P:Prop} (h:P:=by
 refine zak [(0,some 980),(1,some 981),(2,some 982),(3,some 983),(4,some 984),(5,some 985)] rfl rfl trivial rfl rfl ⟨⟨rfl,.inl ⟨980,rfl,rfl⟩⟩,⟨rfl,.inl ⟨981,rfl,rfl⟩⟩,⟨rfl,.inl ⟨982,rfl,rfl⟩⟩,⟨rfl,.inl ⟨983,rfl,rfl⟩⟩,⟨rfl,.inl ⟨984,rfl,rfl⟩⟩,⟨rfl,.inl ⟨985,rfl,rfl⟩⟩,trivial⟩):P:=h
theorem yy74 {P:Prop} (h:P:=by
 conv=>whnf
 exact zak [(0,some 20),(1,some 21),(2,some 22),(3,some 23),(4,some 24),(5,some 25)] rfl rfl trivial rfl rfl ⟨⟨rfl,.inl ⟨20,rfl,rfl⟩⟩,⟨rfl,.inl ⟨21,rfl,rfl⟩⟩,⟨rfl,.inl ⟨22,rfl,rfl⟩⟩,⟨rfl,.inl ⟨23,rfl,rfl⟩⟩,⟨rfl,.inl ⟨24,rfl,rfl⟩⟩,⟨rfl,.inl ⟨25,rfl,rfl⟩⟩,trivial⟩):P:=h
theorem yy124 {P:Prop} (h:P:=by
 dsimp only
 rw [Sco.lost,List.length_map]
 refine Nat.le_trans (List.length_filter_le _ _) ?_
 rw [Sco.left,List.length_map];exact List.length_filter_le _ _):P:=h
theorem yy121 {P:Prop} (h:P:=by
 split
 . obtain ⟨k,hk⟩:∃ k:Nat,m.id=k:=⟨m.id.toNat,by omega⟩
   rw [hk];exact ⟨yde h (by omega),by rw [zmx,List.length_set]⟩
 . exact ⟨h,rfl⟩):P:=h
theorem yy112 {P:Prop} (h:P:=by
 exact ⟨by rw [g2];exact q.path0,by rw [g2];exact q.path1,by rw [g3];exact q.id0,by rw [g3];exact q.id1,by rw [g4];exact q.spans,by rw [g4];exact q.skips,by rw [g4];exact q.data⟩):P:=h
theorem yy6 {P:Prop} (h:P:=by
 repeat (refine hcut.go ?_;conv=>whnf)
 refine ⟨{ k:Nat // k <= s.had.length },fun | ⟨k,_⟩=>hs 127 [(2,qs q),(4,.ptr 4 0),(7,i64 s.had.length),(10,.own 900),(11,i64 (k+1))] [(4,.live (.cells 28 s.cells)),(900,rowI ((List.range' 0 k).map fun i:Nat=>(s.last+1+(i:Int)).tmod s.had.length))],fun k=>s.had.length - k.1,⟨0,by omega⟩,?_,?_⟩
 . exact (hle_Q [(4,some 4),(900,none)])
 rintro ⟨k,hk⟩
 refine zbh fun Q hQ=>?_
 conv=>whnf
 by_cases c:k < s.had.length
 . refine sT ?_
   refine sF ?_
   refine sO ?_
   refine zaa (c:=((((List.range' 0 k).map fun i:Nat=>(s.last+1+(i:Int)).tmod s.had.length).map fun n=>[pi n]).length+1) * 8 <= 140737488355328) (by simp;omega) ?_;conv=>whnf
   (try (refine hcut.go ?_;conv=>whnf))
   refine sF ?_
   refine hQ _ _ ?_;conv=>whnf
   exact ⟨⟨k+1,c⟩,(hle_X [(4,some 4),(900,some 62)] (by repeat' (first | exact z0 | refine z1 ?_ | refine ⟨?_,?_⟩ | ((exact zaw om)) | ((refine zau (f:=fun n=>[pi n]) (x:=(s.last+((k:Int)+1)).tmod s.had.length) (by rw [List.range'_concat,List.map_append,show s.last+((k:Int)+1)=s.last+1+(k:Int) by omega];simp) rfl)) | exact z2))),by dsimp only;omega⟩
 . refine sN ?_
   refine hQ _ _ ?_;conv=>whnf
   have hkk:k=s.had.length:=by omega
   subst hkk
   rw [hafter]
   obtain ⟨O,hO⟩:∃ O,O=((List.range' 0 s.had.length).map fun i:Nat=>(s.last+1+(i:Int)).tmod s.had.length):=⟨_,rfl⟩
   rw [<- hO]
   generalize hN:pick q O=N
   have hOl:O.length=s.had.length:=by rw [hO];simp
   refine ⟨{ x:List Int × List Int // (O)=x.1++x.2 /\ pick q x.2=N },fun | ⟨(a,b),_⟩=>hs 127 [(2,qs q),(114,.own 900),(115,i64 (O).length),(116,i64 a.length)] [(900,rowI (O))],fun x=>x.1.2.length,⟨([],O),rfl,hN⟩,?_,?_⟩
   . exact (hle_X [(900,some 900)] (by repeat' (first | exact z0 | refine z1 ?_ | refine ⟨?_,?_⟩ | ((exact zaw (by rw [hO];simp))) | ((exact zan (by rw [hO]))) | exact z2)))
   rintro ⟨⟨a,b⟩,h,hp⟩
   dsimp only at h hp
   refine zbh fun Q hQ=>?_
   cases b with
   | cons k b =>
    have hz:=zat h
    rw [pick] at hp
    conv=>whnf
    refine zac (by rw [decide_eq_true_eq];omega) ?_;conv=>whnf
    refine sO ?_
    refine zah h rfl ?_;conv=>whnf
    (refine cL ?_;refine dL (zjs q k hb) ?_)
    by_cases c:first q k >= 0
    . rw [if_pos c] at hp
      refine zac (by simpa using c) ?_;conv=>whnf
      refine hQ _ _ ?_;conv=>whnf
      rw [hp]
    . rw [if_neg c] at hp
      refine zab (by simpa using c) ?_;conv=>whnf
      (try (refine hcut.go ?_;conv=>whnf))
      refine sFm ?_
      refine hQ _ _ ?_;conv=>whnf
      exact ⟨⟨(a++[k],b),zag h,hp⟩,(hle_Q [(900,some 900)]),by simp⟩
   | nil =>
    have hz:=zaz h
    conv=>whnf
    refine zab (by rw [decide_eq_false_iff_not];omega) ?_;conv=>whnf
    refine hQ _ _ ?_;conv=>whnf
    rw [<- hp];rfl):P:=h
theorem yy8 {P:Prop} (h:P:=by
 rintro ⟨⟨a,b⟩,h,hp⟩
 dsimp only at h hp
 refine zbh fun Q hQ=>?_
 cases b with
 | cons k b =>
  have hz:=zat h
  rw [pick] at hp
  conv=>whnf
  refine zac (by rw [decide_eq_true_eq];omega) ?_;conv=>whnf
  refine sO ?_
  refine zah h rfl ?_;conv=>whnf
  (refine cL ?_;refine dL (zjs q k hb) ?_)
  by_cases c:first q k >= 0
  . rw [if_pos c] at hp
    refine zac (by simpa using c) ?_;conv=>whnf
    refine hQ _ _ ?_;conv=>whnf
    rw [hp]
  . rw [if_neg c] at hp
    refine zab (by simpa using c) ?_;conv=>whnf
    (try (refine hcut.go ?_;conv=>whnf))
    refine sFm ?_
    refine hQ _ _ ?_;conv=>whnf
    exact ⟨⟨(a++[k],b),zag h,hp⟩,(hle_Q [(900,some 900)]),by simp⟩
 | nil =>
  have hz:=zaz h
  conv=>whnf
  refine zab (by rw [decide_eq_false_iff_not];omega) ?_;conv=>whnf
  refine hQ _ _ ?_;conv=>whnf
  rw [<- hp];rfl):P:=h
theorem yy12 {P:Prop} (h:P:=by
 rintro ⟨⟨a,b⟩,h⟩
 dsimp only at h
 cases b with
 | cons n b =>
  have hz:=zat h
  have hsn:(a++[n]).mapIdx (fun k n=>if (k:Int)=m.message.stream then W (n+bytes) else n)=(a.mapIdx fun k n=>if (k:Int)=m.message.stream then W (n+bytes) else n)++[if (a.length:Int)=m.message.stream then W (n+bytes) else n]:=by rw [List.mapIdx_concat]
  conv=>whnf
  refine sT ?_
  refine zah h rfl ?_;conv=>whnf
  repeat (refine hcut.go ?_;conv=>whnf)
  by_cases c:(a.length:Int)=m.message.stream
  . rw [if_pos c] at hsn
    refine zac (by simpa using c) ?_;conv=>whnf
    (try (refine hcut.go ?_;conv=>whnf))
    refine zbp ?_;conv=>whnf
    (try (refine hcut.go ?_;conv=>whnf))
    refine zaa (c:=(((a.mapIdx fun k n=>if (k:Int)=m.message.stream then W (n+bytes) else n).map fun n=>[pi n]).length+1) * 8 <= 140737488355328) (by simp;omega) ?_;conv=>whnf
    (try (refine hcut.go ?_;conv=>whnf))
    refine sF ?_
    exact ⟨⟨(a++[n],b),zag h⟩,(hle_X [(5,some 5),(8,some 8),(9,some 9),(900,some 40)] (by repeat' (first | exact z0 | refine z1 ?_ | refine ⟨?_,?_⟩ | ((exact zau (f:=fun n=>[pi n]) hsn rfl)) | exact z2))),by simp⟩
  . rw [if_neg c] at hsn
    refine zab (by simpa using c) ?_;conv=>whnf
    (try (refine hcut.go ?_;conv=>whnf))
    refine zaa (c:=(((a.mapIdx fun k n=>if (k:Int)=m.message.stream then W (n+bytes) else n).map fun n=>[pi n]).length+1) * 8 <= 140737488355328) (by simp;omega) ?_;conv=>whnf
    (try (refine hcut.go ?_;conv=>whnf))
    refine sF ?_
    exact ⟨⟨(a++[n],b),zag h⟩,(hle_X [(5,some 5),(8,some 8),(9,some 9),(900,some 40)] (by repeat' (first | exact z0 | refine z1 ?_ | refine ⟨?_,?_⟩ | ((exact zau (f:=fun n=>[pi n]) hsn rfl)) | exact z2))),by simp⟩
 | nil =>
  have hz:=zaz h
  rw [List.append_nil] at h
  conv=>whnf
  refine sN ?_
  rw [h]
  try rfl):P:=h
theorem yy102 {P:Prop} (h:P:=by
 (try (refine hcut.go ?_;conv=>whnf))
 refine sF ?_
 refine hQ _ _ ?_;conv=>whnf
 exact ⟨⟨(k+1,(k:Int)),c7,.inr (by dsimp only;omega),g3⟩,(hle_Q [(4,some 4),(900,some 900),(901,some 901)]),by dsimp only;omega⟩):P:=h
theorem yy23 {P:Prop} (h:P:=by
 refine sN ?_
 refine zaa (c:=(((a.map (age high)).map Sent.row).length+1) * 200 <= 140737488355328) om ?_;conv=>whnf
 refine sF ?_
 exact ⟨⟨(a++[s],b),zag h⟩,(hle_X [(900,some 900),(901,some 901),(902,some 130),(903,some 903)] (by repeat' (first | exact z0 | refine z1 ?_ | refine ⟨?_,?_⟩ | ((rw [show lost high (a++[s])=lost high a by rw [el,e2,List.append_nil]];rfl)) | ((refine zau (f:=Sent.row) ea ?_;rw [e1];rfl)) | exact z2))),by simp⟩):P:=h
theorem yy42 {P:Prop} (h:P:=by
 refine sT ?_
 refine zaa (c:=((out.map Sent.row).length+1) * 200 <= 140737488355328) om ?_;conv=>whnf
 refine sF ?_
 exact ⟨⟨_,hnx⟩,(hle_X [(6,some 6),(900,some 900),(901,some 97)] (by repeat' (first | exact z0 | refine z1 ?_ | refine ⟨?_,?_⟩ | (exact (zda (f:=Sent.row) rfl).symm) | (exact eA) | exact z2))),by simp⟩):P:=h
theorem yy53 {P:Prop} (h:P:=by
 refine sN ?_
 refine sF ?_
 exact ⟨⟨_,hnx⟩,(hle_X [(6,some 6),(900,some 900),(901,some 901)] (by repeat' (first | exact z0 | refine z1 ?_ | refine ⟨?_,?_⟩ | (exact (zda (f:=Sent.row) rfl).symm) | (exact eA) | exact z2))),by simp⟩):P:=h
theorem yy106 {P:Prop} (h:P:=by
 show HV.tup [_,_,.p (.sl 1 (List.replicate paths.toNat [pi 0])),_]=_
 rw [show List.replicate paths.toNat [pi 0]=(List.replicate paths.toNat (0:Int)).map fun n=>[pi n] by rw [List.map_replicate]]
 rfl):P:=h
theorem yy80 {P:Prop} (h:P:=by
 rw [if_neg hm] at hlast
 conv=>whnf
 refine sF ?_
 exact ⟨⟨(c++[x],d,t),zag hcd,by simpa using hlast⟩,(hle_Q [(9,some 9),(900,some 900)]),by simp⟩):P:=h
theorem yy90 {P:Prop} (h:P:=by
 subst hi
 ((refine hif_T ?_;conv=>whnf);try (refine hcut.go ?_;conv=>whnf))
 try rfl):P:=h
theorem yy120 {P:Prop} (h:P:=by
 rw [if_pos hm] at hlast
 conv=>whnf
 refine sF ?_
 exact ⟨⟨(c++[x],d,c.length),zag hcd,by simpa using hlast⟩,(hle_Q [(9,some 9),(900,some 900)]),by simp⟩):P:=h
theorem yy94 {P:Prop} (h:P:=by
 (try (refine hcut.go ?_;conv=>whnf))
 refine sF ?_
 exact ⟨⟨(a++[y],b),zag h'⟩,(hle_X ((2,some 2) :: ((4,some 4) :: (pJ3 []))) (by repeat' (first | exact z0 | refine z1 ?_ | refine ⟨?_,?_⟩ | ((rw [e0,e1])) | exact z2))),by simp⟩):P:=h
theorem yy128 {P:Prop} (h:P:=by
 (try (refine hcut.go ?_;conv=>whnf))
 ((refine zbw ?_;(conv=>whnf);refine ⟨_,hp,rfl,?_⟩;conv=>whnf);try (refine hcut.go ?_;conv=>whnf))
 try rfl):P:=h
theorem yy52 {P:Prop} (h:P:=by
 (try (refine hcut.go ?_;conv=>whnf))
 refine zaa (c:=((C.map Path.row).length+1) * 56 <= 140737488355328) (by rw [List.length_map];omega) ?_;conv=>whnf
 refine sF ?_
 refine hQ _ _ ?_;conv=>whnf
 exact ⟨⟨((A++[p],B),t,C++[p]),zag h,by rw [hAl];exact hst,by rw [List.append_assoc];exact hk,hz3,by simp [hC]⟩,(hle_X [(1,some 1),(2,some 2),(900,some 84)] (by repeat' (first | exact z0 | refine z1 ?_ | refine ⟨?_,?_⟩ | ((exact zau (f:=Path.row) rfl rfl)) | exact z2))),by simp⟩):P:=h
theorem yy81 {P:Prop} (h:P:=by
 (try (refine hcut.go ?_;conv=>whnf))
 refine sF ?_
 refine hQ2 _ _ ?_;conv=>whnf
 exact ⟨⟨(a++[y],b),zag h'⟩,(hle_X [(1,some 1),(2,some 2),(5,some 5),(900,some 900),(902,some 902)] (by repeat' (first | exact z0 | refine z1 ?_ | refine ⟨?_,?_⟩ | ((rw [e0,e1])) | exact z2))),by simp⟩):P:=h
theorem yy4 {P:Prop} (h:P:=by
 refine hcut.meet (PLift (¬ (flight s > 0 /\ W (flight s+many s m) > s.room))) (fun _=>hsP [1000,1007,1008] 298 [(0,.ptr 1000 0),(3,i64 (choose s)),(4,i64 k),(5,.ptr 5 0),(6,i64 (many s m))] (rnM s m a c)) ?_ hrest
 conv=>whnf
 by_cases c7:m.mid < 0
 case neg =>
  have hm1:midOf s m=m.mid:=if_neg c7
  have hm2:zcm s m=s.mids:=if_neg c7
  refine zab (decide_eq_false c7) ?_;conv=>whnf
  exact ⟨⟨c6⟩,(hle_Y [(1000,some 1000),(1007,some 1007),(1008,some 1008),(5,some 5)] (by repeat' (first | exact z0 | refine z1 ?_ | refine ⟨?_,?_⟩ | ((rw [hm1];rfl)) | ((rw [hm2];rfl)) | exact z2)))⟩
 obtain ⟨v,hv⟩:∃ v,s.mids[midAt s m]?=some v:=⟨_,List.getElem?_eq_getElem (mf.at_ c7)⟩
 have hmo:midOf s m=v:=by rw [midOf,if_pos c7,hv];rfl
 have hms:zcm s m=s.mids.set (midAt s m) (W (v+1)):=by rw [zcm,if_pos c7,setAt,hv]
 have hml:=mf.at_ c7
 refine zac (decide_eq_true c7) ?_;conv=>whnf
 have hat:(m.message.stream+if m.message.ordered then 0 else s.config.streams)=(midAt s m:Int):=by unfold midAt;have:=mf.lo;have:=mf.lo2;split <;> omega
 have hfs:=mf.lo;have hfh:=mf.hi;have hfs2:=mf.lo2;have hfh2:=mf.hi2
 have hmr:∀ j:Nat,j=midAt s m -> (([]:List (List PV))++s.mids.map fun n=>[pi n]).set j [pi (W (v+1))]=(zcm s m).map fun n=>[pi n]:=fun j hj=>by rw [hj,hms];simp [List.map_set]
 (try (refine hcut.go ?_;conv=>whnf))
 cases ho:m.message.ordered with
 | true =>
  rw [ho,if_pos rfl] at hat
  conv=>whnf
  (try (refine hcut.go ?_;conv=>whnf))
  refine zaj hv (by omega) ?_;conv=>whnf
  refine zaa (c:=(([]:List (List PV)).length+(s.mids.map fun n=>[pi n]).length) * 8 <= 140737488355328) (by simp;omega) ?_;conv=>whnf
  refine sOm ?_
  refine zaj (l:=s.mids) hv (by omega) ?_;conv=>whnf
  refine sRm ?_
  refine sOm ?_
  refine zaj (l:=s.mids) hv (by omega) ?_;conv=>whnf
  exact ⟨⟨c6⟩,(hle_Z [146] [(1000,some 1000),(1007,some 1007),(1008,some 1008),(5,some 5)] (by repeat' (first | exact z0 | refine z1 ?_ | refine ⟨?_,?_⟩ | ((rw [hmo];rfl)) | ((exact congrArg (fun r=>pdS { s with mids:=zcm s m } (Sch.qs s.queue) (Sco.sents s.out) (pths s.paths) (.p (.sl 1 r)) 1007 1008) (hmr _ (by omega)))) | exact z2)))⟩
 | false =>
  rw [ho,if_neg (by decide)] at hat
  conv=>whnf
  (try (refine hcut.go ?_;conv=>whnf))
  refine sF ?_
  refine zaj hv (by omega) ?_;conv=>whnf
  refine zaa (c:=(([]:List (List PV)).length+(s.mids.map fun n=>[pi n]).length) * 8 <= 140737488355328) (by simp;omega) ?_;conv=>whnf
  refine sOm ?_
  refine zaj (l:=s.mids) hv (by omega) ?_;conv=>whnf
  refine sRm ?_
  refine sOm ?_
  refine zaj (l:=s.mids) hv (by omega) ?_;conv=>whnf
  exact ⟨⟨c6⟩,(hle_Z [146] [(1000,some 1000),(1007,some 1007),(1008,some 1008),(5,some 5)] (by repeat' (first | exact z0 | refine z1 ?_ | refine ⟨?_,?_⟩ | ((rw [hmo];rfl)) | ((exact congrArg (fun r=>pdS { s with mids:=zcm s m } (Sch.qs s.queue) (Sco.sents s.out) (pths s.paths) (.p (.sl 1 r)) 1007 1008) (hmr _ (by omega)))) | exact z2)))⟩):P:=h
theorem yy79 {P:Prop} (h:P:=by
 subst hG
 (exact zbn [(1000,some 1000),(1007,some 1007),(1008,some 1008),(0,some 1007),(1,some 1008)])):P:=h
theorem yy83 {P:Prop} (h:P:=by
 refine sF ?_
 refine hQ _ _ ?_;conv=>whnf
 exact ⟨⟨(A++[x],B),zag h⟩,(hle_Y [(1000,some 1000),(1007,some 1007),(1008,some 1008),(5,some 5),(900,some 281)] (by repeat' (first | exact z0 | refine z1 ?_ | refine ⟨?_,?_⟩ | ((exact zau (f:=Queued.row) hb rfl)) | exact z2))),by simp⟩):P:=h
theorem yy97 {P:Prop} (h:P:=by
 conv=>whnf
 exact ⟨⟨⟩,(hle_Y [(1000,some 1000),(1007,some 1007),(1008,some 1008),(5,some 5)] (by repeat' (first | exact z0 | refine z1 ?_ | refine ⟨?_,?_⟩ | ((exact zaw (by unfold many;split <;> omega))) | exact z2)))⟩):P:=h
theorem yy21 {P:Prop} (h:P:=by
 (try (refine hcut.go ?_;conv=>whnf))
 refine zaa (c:=(((A.mapIdx fun id f=>settled V id f).map fun n:Int=>[pi n]).length+1) * 8 <= 140737488355328) (by rw [List.length_map,List.length_mapIdx];omega) ?_;conv=>whnf
 refine sF ?_
 refine hQ _ _ ?_;conv=>whnf
 exact ⟨⟨(A++[f],B),zag h⟩,(hle_X [(2,some 2),(3,some 3),(4,some 4),(900,some 210)] (by repeat' (first | exact z0 | refine z1 ?_ | refine ⟨?_,?_⟩ | ((exact zau (f:=fun n:Int=>[pi n]) (hmi.trans (by rw [hset])) rfl)) | exact z2))),by simp⟩):P:=h
theorem yy48 {P:Prop} (h:P:=by
 refine zaa (c:=(((A.mapIdx fun i p=>if K3[i]?.getD 0 > 0 then Paths.acked p (K3[i]?.getD 0) s.config.part (decide (K2 > s.cum)) else p).map Path.row).length+1) * 56 <= 140737488355328) (by rw [List.length_map,List.length_mapIdx];omega) ?_;conv=>whnf
 refine sF ?_
 refine hQ _ _ ?_;conv=>whnf
 exact ⟨⟨(A++[p],B),zag h⟩,(hle_X [(2,some 2),(3,some 3),(4,some 4),(900,some 100)] (by repeat' (first | exact z0 | refine z1 ?_ | refine ⟨?_,?_⟩ | ((exact zau (f:=Path.row) hm rfl)) | exact z2))),by simp⟩):P:=h
theorem yy78 {P:Prop} (h:P:=by
 exact ⟨⟨⟩,(hle_X [(2,some 2),(3,some 3),(4,some 4)] (by repeat' (first | exact z0 | refine z1 ?_ | refine ⟨?_,?_⟩ | ((rw [hv])) | exact z2)))⟩):P:=h
theorem yy93 {P:Prop} (h:P:=by
 refine sF ?_
 refine hQ3 _ _ ?_;conv=>whnf
 exact ⟨⟨(a'++[x],b),zag h2'⟩,(hle_X [(2,some 2),(3,some 3),(4,some 4),(900,some 900)] (by repeat' (first | exact z0 | refine z1 ?_ | refine ⟨?_,?_⟩ | ((rw [hany])) | exact z2))),by simp⟩):P:=h
theorem yy44 {P:Prop} (h:P:=by
 try (refine hcut.go ?_;conv=>whnf)
 rw [hjv]
 refine zak [(0,none)] rfl rfl trivial rfl rfl ⟨⟨rfl,.inr ⟨rfl,rfl⟩⟩,trivial⟩):P:=h
theorem yy131 {P:Prop} (h:P:=by
 intro hlt
 have:=List.head?_dropWhile_not (lowB n) l
 rw [show l.dropWhile (lowB n)=t :: r from ha] at this
 simp [lowB] at this;omega):P:=h
theorem yy70 {P:Prop} (h:P:=by
 conv=>whnf
 rw [zga,if_pos he]
 refine zak [(0,some 84)] rfl rfl trivial rfl rfl ⟨⟨rfl,.inl ⟨84,rfl,?_⟩⟩,trivial⟩
 exact ztq (by first | (simp;done) | (simp;rfl))):P:=h
theorem yy84 {P:Prop} (h:P:=by
 refine zak [(0,some 24)] rfl rfl trivial rfl rfl ⟨⟨rfl,.inl ⟨24,rfl,rfl⟩⟩,trivial⟩):P:=h
theorem yy137 {P:Prop} (h:P:=by
 subst hu
 refine zak [(0,some 31)] rfl rfl trivial rfl rfl ⟨⟨rfl,.inl ⟨31,rfl,?_⟩⟩,trivial⟩
 exact ztq h):P:=h
theorem yy135 {P:Prop} (h:P:=by
 refine sT ?_
 refine sF ?_
 exact ⟨⟨((a++[s],r),put,o),zag h,ht,by simp;omega⟩,(hle_Q [(900,some 900)]),by simp⟩):P:=h
theorem yy27 {P:Prop} (h:P:=by
 conv=>whnf
 refine ⟨{ x:List Piece × List Piece // r.pieces=x.1++x.2 },fun | ⟨(A,B),_⟩=>hs 21 [(3,i64 (tot A:Nat)),(7,pieces r.pieces),(8,i64 r.pieces.length),(9,i64 A.length)] [],fun x=>x.1.2.length,⟨([],r.pieces),rfl⟩,?_,?_⟩
 . exact (hle_Q [])
 rintro ⟨⟨A,B⟩,h⟩
 dsimp only at h
 have hl:r.pieces.length=A.length+B.length:=by rw [h];simp
 have ht:tot r.pieces=tot A+tot B:=by rw [h,zja]
 conv=>whnf
 cases B with
 | cons p B =>
  rw [List.length_cons] at hl
  rw [zdp] at ht
  refine sT ?_
  refine zah h rfl ?_;conv=>whnf
  refine sF ?_
  refine sF ?_
  exact ⟨⟨(A++[p],B),by rw [h];simp⟩,(hle_X [] (by repeat' (first | exact z0 | refine z1 ?_ | refine ⟨?_,?_⟩ | ((exact zaw (by rw [zja,zdp];simp [tot]))) | exact z2))),by simp⟩
 | nil =>
  rw [List.length_nil] at hl
  rw [List.append_nil] at h
  refine sN ?_
  rw [h]):P:=h
theorem yy101 {P:Prop} (h:P:=by
 (exact zbn (pK5 [(0,some 910),(1,some 911),(2,some 912),(3,some 913)]))):P:=h
theorem yy125 {P:Prop} (h:P:=by
 (exact zbn (pK5 [(0,some 1001),(1,some 1002),(2,some 1003),(3,some 1004)]))):P:=h
namespace Go.HL
namespace Sco
open Ser
theorem yiv (l:List Sent) (cum:Int) (c:Chunk) (paths:Int) (hl:Sized l) (hr:Right l cum paths) (hsp:c.spans.length < 2 ^ 60) :
 FunOK Tryz.prog 75 [sents l,i64 cum,c.hv,i64 paths] zad (.tup [.own 0,i64 (sack l cum c paths).2.1,.own 1,.own 2]) (lk .free [(0,sentB (sack l cum c paths).1),(1,intB (sack l cum c paths).2.2.1),(2,intB (sack l cum c paths).2.2.2)]):=by
 have hl1:=hl.len
 have hp0:=hr.p0
 have hp1:=hr.p1
 have hc0:=hr.c0
 have hc1:=hr.c1
 refine zal mixed Tryz.func75 (by decide) [] (fun _=>.inl rfl) ?_
 have hn:=zfy (a:=cum) (t:=c.tag) (by omega) (by omega)
 rw [sack]
 generalize hN:near cum c.tag=n at hn ⊢
 conv=>whnf
 refine zaa (c:=0 <= (if 0 > paths then 0 else paths) /\ (if 0 > paths then 0 else paths)=(if 0 > paths then 0 else paths) /\ (if 0 > paths then 0 else paths) * 8 <= 140737488355328) (by omega) ?_
 conv=>whnf
 (refine cL ?_;refine dLm (zhc _ _) ?_)
 rw [hN]
 conv=>whnf
 refine hcut.meet PUnit (fun _=>hs 165 [(0,sents l),(1,i64 cum),(6,.ptr 6 0),(8,hnil),(10,.own 900),(11,hnil),(12,i64 n),(13,i64 (cum+l.length))] [(6,.live (.cells 61 c.cells)),(900,intB (List.replicate paths.toNat 0))]) ?_ ?_
 . have e21:HSlot.live (.row 3 1 (List.replicate (if 0 > paths then 0 else paths).toNat [pi 0]))=intB (List.replicate paths.toNat 0):=by
    rw [if_neg (by omega),intB,List.map_replicate]
   conv=>whnf
   refine zaf (fun c1=>?_) (fun c1=>?_)
   . have c1:0 < l.length:=by simpa using c1
     have e1:=hr.rise (l.length - 1) (l[l.length - 1]) (List.getElem?_eq_getElem (by omega))
     conv=>whnf
     refine sF ?_
     refine zbe (l.length - 1) (by simp;omega) (by omega) ?_
     exact yy111
   . have c1:l.length=0:=by simpa using c1
     exact yy111
 rintro ⟨⟩
 conv=>whnf
 by_cases k1:n < cum \/ n > cum+l.length
 . rw [if_pos k1]
   by_cases k2:n < cum
   . refine sT ?_
     exact yy91
   . refine sN ?_
     refine sT ?_
     exact yy91
 . rw [if_neg k1]
   refine sN ?_
   refine sN ?_
   (refine zao [(0,50)]  ?_;(conv=>whnf);refine dO (zci l hl) ?_)
   refine ⟨{ x:List Sent × List Sent × List Sent × List Int × Int // SI l c n paths.toNat cum x },fun | ⟨(a,b,out,come,high),_⟩=>hs 165 [(6,.ptr 6 0),(8,.own 901),(10,.own 900),(11,hnil),(12,i64 n),(14,i64 high),(50,.own 902),(51,i64 l.length),(52,i64 a.length)] [(6,.live (.cells 61 c.cells)),(900,intB come),(901,sentB out),(902,sentB l)],fun x=>x.1.2.1.length,⟨([],l,[],List.replicate paths.toNat 0,0),rfl,rfl,rfl,rfl,Int.le_refl _,by dsimp only;simp;omega⟩,?_,?_⟩
   . exact (hle_Q [(6,some 6),(900,some 900),(901,none),(902,some 50)])
   rintro ⟨⟨a,b,out,come,high⟩,hi⟩
   have h:=hi.split
   dsimp only at h
   cases b with
   | nil =>
    have hz:=zaz h
    obtain ⟨h1,h2,h3,h4,h5,h6⟩:=hi
    dsimp only at h1 h2 h3 h4 h5 h6
    rw [List.append_nil] at h1
    subst h1
    rw [<- h3,<- h4,<- h2]
    have hlen:out.length <= l.length:=by rw [h2,left,List.length_map];exact List.length_filter_le _ _
    conv=>whnf
    refine sN ?_
    refine ⟨{ x:List Sent × List Sent // out=x.1++x.2 },fun | ⟨(a,b),_⟩=>hs 165 [(8,.own 901),(10,.own 900),(11,.own 903),(12,i64 n),(14,i64 high),(118,i64 out.length),(119,i64 a.length)] [(900,intB come),(901,sentB (a.map (age high)++b)),(903,intB (lost high a))],fun x=>x.1.2.length,⟨([],out),rfl⟩,?_,?_⟩
    . exact (hle_Q [(900,some 900),(901,some 901),(903,none)])
    rintro ⟨⟨a,b⟩,h⟩
    dsimp only at h
    cases b with
    | nil =>
     have hz:=zaz h
     rw [List.append_nil] at h
     subst h
     conv=>whnf
     refine sN ?_
     exact zak [(0,some 901),(1,some 900),(2,some 903)] rfl rfl trivial rfl rfl ⟨⟨rfl,.inl ⟨901,rfl,by exact zan (by rw [List.append_nil])⟩⟩,⟨rfl,.inl ⟨900,rfl,rfl⟩⟩,⟨rfl,.inl ⟨903,rfl,rfl⟩⟩,trivial⟩
    | cons s b =>
     have hz:=zat h
     have ea:(a++[s]).map (age high)++b=a.map (age high)++age high s :: b:=by simp
     have el:lost high (a++[s])=lost high a++lost high [s]:=by simp [lost]
     have hln:(lost high a).length <= a.length:=by rw [lost,List.length_map];exact List.length_filter_le _ _
     conv=>whnf
     refine sT ?_
     (try (refine hcut.go ?_;conv=>whnf))
     refine sO ?_
     refine zah (a:=a.map (age high)) (b:=b) (s:=s) rfl (by simp) ?_;conv=>whnf
     by_cases c1:s.state=1
     . refine sN ?_
       refine zah (a:=a.map (age high)) (b:=b) (s:=s) rfl (by simp) ?_;conv=>whnf
       by_cases c2:s.number < high
       . refine sN ?_
         refine zah (a:=a.map (age high)) (b:=b) (s:=s) rfl (by simp) ?_;conv=>whnf
         refine sR ?_
         refine zah (a:=a.map (age high)) (b:=b) (s:=s) rfl (by simp) ?_;conv=>whnf
         refine zbj (by simp) (by simp) ?_;conv=>whnf
         by_cases c3:W (s.missed+1) >= 3
         . have e1:age high s={ s with missed:=W (s.missed+1),state:=3 }:=by rw [age,if_pos ⟨c1,c2⟩,if_pos c3]
           have e2:lost high [s]=[s.number]:=by simp [lost,c1,c2,c3]
           refine sT ?_
           refine zbj (by simp) (by simp) ?_;conv=>whnf
           refine zbj (by simp) (by simp) ?_;conv=>whnf
           refine zaa (c:=(((lost high a).map fun n=>[pi n]).length+1) * 8 <= 140737488355328) (by rw [List.length_map];omega) ?_;conv=>whnf
           refine sF ?_
           exact ⟨⟨(a++[s],b),zag h⟩,(hle_X [(900,some 900),(901,some 901),(903,some 159)] (by repeat' (first | exact z0 | refine z1 ?_ | refine ⟨?_,?_⟩ | ((rw [ea];exact (yqm (by simp) (by rw [e1];rfl)).symm)) | ((rw [el,e2];exact (zda (f:=fun n=>[pi n]) rfl).symm)) | exact z2))),by simp⟩
         . have e1:age high s={ s with missed:=W (s.missed+1) }:=by rw [age,if_pos ⟨c1,c2⟩,if_neg c3]
           have e2:lost high [s]=[]:=by simp [lost,c1,c2,c3]
           refine sN ?_
           refine sF ?_
           exact ⟨⟨(a++[s],b),zag h⟩,(hle_X [(900,some 900),(901,some 901),(903,some 903)] (by repeat' (first | exact z0 | refine z1 ?_ | refine ⟨?_,?_⟩ | ((rw [ea];exact (zcw (by simp) (by rw [e1];rfl)).symm)) | ((rw [el,e2,List.append_nil];rfl)) | exact z2))),by simp⟩
       . have e1:age high s=s:=by rw [age,if_neg fun h=>c2 h.2]
         have e2:lost high [s]=[]:=by simp [lost,c2]
         exact yy88
     . have e1:age high s=s:=by rw [age,if_neg fun h=>c1 h.1]
       have e2:lost high [s]=[]:=by simp [lost,c1]
       exact yy88
   | cons s b =>
    have hz:=zat h
    obtain ⟨hnum,hpa0,hpa1⟩:=hr.at h
    have hnx:=hi.next hnum hc0
    have hhi:=hi.h1
    have hh0:=hi.h0
    have hcl:=hi.come
    have hol:out.length <= a.length:=by have:=hi.out;dsimp only at this;rw [this,left,List.length_map];exact List.length_filter_le _ _
    dsimp only at hhi hh0 hcl
    have hcl:come.length=paths.toNat:=by rw [hcl,zjk]
    have hby:=hl.bytes
    rw [h,zfi,zej] at hby
    conv=>whnf
    refine sT ?_
    refine sO ?_
    refine zah h rfl ?_;conv=>whnf
    by_cases g:s.number > n
    . refine sT ?_
      refine sR ?_
      (refine cL ?_;refine dL (yfq c.spans _ (by omega)) ?_)
      by_cases hh:has c.spans (W (s.number - n))=true
      . have hk:here c n s=true:=by rw [here,hh];simp
        refine sN ?_
        have eA:HSlot.live (.row 3 1 ((come.map fun n=>[pi n]).set s.path.toNat [pi (W (come[s.path.toNat]'(by omega)+((s.chunk.data.map bRow).length:Int)))]))=intB (addAt come s.path s.chunk.data.length):=by
         exact yy107
        by_cases q:s.state=1 \/ s.state=3
        . have hcm:comes c n s=true:=by rw [comes,hk,Bool.true_and];rcases q with q | q <;> rw [q] <;> rfl
          rw [if_pos g,come1,if_pos hcm,high1,if_pos hcm,turn,if_pos hcm] at hnx
          have emx:(if s.number > high then s.number else high)=s.number:=by split <;> omega
          by_cases q1:s.state=1
          . refine sT ?_
            (repeat' (first | refine sT ?_ | refine sN ?_))
            refine sO ?_
            refine zbe s.path.toNat (by omega) (by omega) ?_;conv=>whnf
            refine sR ?_
            refine sO ?_
            refine zbe s.path.toNat (by omega) (by omega) ?_;conv=>whnf
            refine sD ?_
            exact yy33
          . refine sN ?_
            refine sT ?_
            (repeat' (first | refine sT ?_ | refine sN ?_))
            refine sO ?_
            refine zbe s.path.toNat (by omega) (by omega) ?_;conv=>whnf
            refine sR ?_
            refine sO ?_
            refine zbe s.path.toNat (by omega) (by omega) ?_;conv=>whnf
            refine sD ?_
            exact yy33
        . have hcm:comes c n s=false:=by
           rw [comes,hk,Bool.true_and]
           simp only [not_or] at q
           simp [q.1,q.2]
          rw [if_pos g,come1,if_neg (by rw [hcm];decide),high1,if_neg (by rw [hcm];decide),turn,if_neg (by rw [hcm];decide)] at hnx
          have q1:s.state ≠ 1:=fun h=>q (.inl h)
          have q2:s.state ≠ 3:=fun h=>q (.inr h)
          refine sN ?_
          refine sN ?_
          exact yy33
      . have hk:here c n s=false:=by rw [here];simp [hh];omega
        have hcm:comes c n s=false:=by rw [comes,hk];rfl
        rw [if_pos g,come1,if_neg (by rw [hcm];decide),high1,if_neg (by rw [hcm];decide),turn,if_neg (by rw [hcm];decide)] at hnx
        refine zac (by simpa using hh) ?_;conv=>whnf
        refine zaa (c:=((out.map Sent.row).length+1) * 200 <= 140737488355328) om ?_;conv=>whnf
        refine sF ?_
        exact ⟨⟨_,hnx⟩,(hle_X [(6,some 6),(900,some 900),(901,some 73),(902,some 902)] (by repeat' (first | exact z0 | refine z1 ?_ | refine ⟨?_,?_⟩ | (exact (zda (f:=Sent.row) rfl).symm) | exact z2))),by simp⟩
    . have hk:here c n s=true:=by rw [here];simp;left;omega
      refine sN ?_
      have eA:HSlot.live (.row 3 1 ((come.map fun n=>[pi n]).set s.path.toNat [pi (W (come[s.path.toNat]'(by omega)+((s.chunk.data.map bRow).length:Int)))]))=intB (addAt come s.path s.chunk.data.length):=by
       exact yy107
      by_cases q:s.state=1 \/ s.state=3
      . have hcm:comes c n s=true:=by rw [comes,hk,Bool.true_and];rcases q with q | q <;> rw [q] <;> rfl
        rw [if_neg g,come1,if_pos hcm,high1,if_pos hcm,List.append_nil] at hnx
        have emx:(if s.number > high then s.number else high)=s.number:=by split <;> omega
        by_cases q1:s.state=1
        . refine sT ?_
          exact yy56
        . refine sN ?_
          refine sT ?_
          exact yy56
      . have hcm:comes c n s=false:=by
         rw [comes,hk,Bool.true_and]
         simp only [not_or] at q
         simp [q.1,q.2]
        rw [if_neg g,come1,if_neg (by rw [hcm];decide),high1,if_neg (by rw [hcm];decide),List.append_nil] at hnx
        have q1:s.state ≠ 1:=fun h=>q (.inl h)
        have q2:s.state ≠ 3:=fun h=>q (.inr h)
        refine sN ?_
        refine sN ?_
        refine sN ?_
        refine sF ?_
        exact ⟨⟨_,hnx⟩,(hle_X ((6,some 6) :: (pJ3 [])) (by repeat' (first | exact z0 | refine z1 ?_ | refine ⟨?_,?_⟩ | (exact eA) | (exact zaw emx.symm) | exact z2))),by simp⟩
end Sco
namespace Snd
open Ser
def comeP (ps:List Path) (part:Int) (moved:Bool) (A:List Int):List Path:=ps.mapIdx fun i p=>if A[i]?.getD 0 > 0 then Paths.acked p (A[i]?.getD 0) part moved else p
theorem zwc {ps:List Path} {part:Int} {moved:Bool} {A:List Int}:(comeP ps part moved A)[A.length]?=ps[A.length]?:=by
 rw [comeP,List.getElem?_mapIdx,List.getElem?_eq_none (Nat.le_refl _)]
 cases ps[A.length]? <;> simp
theorem zte {ps:List Path} {part:Int} {moved:Bool} {A:List Int} {n:Int} {p:Path} (hp:ps[A.length]?=some p) :
 comeP ps part moved (A++[n])=(comeP ps part moved A).set A.length (if n > 0 then Paths.acked p n part moved else p):=by
 apply List.ext_getElem?
 intro i
 rw [List.getElem?_set,comeP,comeP,List.getElem?_mapIdx,List.getElem?_mapIdx,List.length_mapIdx]
 have hl:=(List.getElem?_eq_some_iff.1 hp).1
 by_cases hi:A.length=i
 . subst hi
   rw [if_pos rfl,if_pos hl,hp]
   simp
 . rw [if_neg hi]
   rcases Nat.lt_or_ge i A.length with h | h
   . rw [List.getElem?_append_left h]
   . rw [List.getElem?_eq_none (l:=A++[n]) (by simp;omega),List.getElem?_eq_none (l:=A) h]
theorem znv {l:List Sent} (h:Sco.Sized l) (cum:Int) (c:Chunk) (paths:Int):Sco.Sized (Sco.sack l cum c paths).1:=by
 have hf:∀ (p:Sent -> Bool) (l:List Sent),Sco.total (l.filter p) <= Sco.total l:=by
  intro p l
  induction l with
  | nil=>exact Nat.le_refl _
  | cons x l ih =>
   rw [List.filter_cons,Sco.zej]
   split
   . rw [Sco.zej];omega
   . omega
 have hm:∀ (f:Sent -> Sent) (l:List Sent),(∀ x,(f x).chunk=x.chunk) -> Sco.total (l.map f)=Sco.total l:=by
  intro f l hf
  simp only [Sco.total,List.map_map]
  congr 1
  exact List.map_congr_left fun s _=>by simp [hf]
 unfold Sco.sack
 split
 . exact h
 . refine ⟨?_,?_⟩
   . have:=List.length_filter_le (fun s:Sent=>decide (s.number > near cum c.tag)) l
     have:=h.len
     simp only [Sco.left,List.length_map];omega
   . dsimp only
     rw [hm _ _ (fun x=>by unfold Sco.age;(repeat' split) <;> rfl),Sco.left,hm _ _ (fun x=>by unfold Sco.turn;split <;> rfl)]
     exact Nat.lt_of_le_of_lt (hf _ _) h.bytes
def zls (s:Sender) (c:Chunk) (k:List Sent × Int × List Int × List Int):Sender:=flights { s with out:=k.1,cum:=k.2.1,room:=c.room,paths:=comeP s.paths s.config.part (decide (k.2.1 > s.cum)) k.2.2.1 }
def zif (part:Int) (t:Sender) (lost:List Int):Sender:=match lost.getLast? with
 | none=>t
 | some z=>if z > t.recover then { t with paths:=setAt t.paths (choose t) fun p=>Paths.halved p part,recover:=W (t.next - 1) } else t
def zer (moved:Bool) (u:Sender):Sender:=if moved=true /\ (Sco.point u.out u.cum).1 > u.cum then { u with forward:=true } else u
theorem zoo (s:Sender) (c:Chunk):heard s c=settle (zer (decide ((Sco.sack s.out s.cum c s.paths.length).2.1 > s.cum)) (zif s.config.part (zls s c (Sco.sack s.out s.cum c s.paths.length)) (Sco.sack s.out s.cum c s.paths.length).2.2.2)):=rfl
def upS (t:Sender) (part:Int) (w:Path):Sender:={ t with paths:=t.paths.set (choose t) (Paths.halved w part),recover:=W (t.next - 1) }
theorem Fit.fwd {s:Sender} (h:Fit s):Fit { s with forward:=true }:=⟨h.queue,h.had,h.out,h.paths,h.mids,h.fates,h.data⟩
theorem Fit.up {s:Sender} (h:Fit s) {part:Int} {w:Path}:Fit (upS s part w):=⟨h.queue,h.had,h.out,by show (s.paths.set _ _).length < _;rw [List.length_set];exact h.paths,h.mids,h.fates,h.data⟩
theorem yiw (s:Sender) (c:Chunk) (hs:Fit s) (hr:Sco.Right s.out s.cum s.paths.length) (hsp:c.spans.length < 2 ^ 60) :
 FunOK Tryz.prog 34 [s.hv,c.hv] zad (sndO (hear s c) 0 1 2 3 4 5) (lk .free (sndB (hear s c) 0 1 2 3 4 5 [])):=by
 have hs':=hs
 obtain ⟨h1,h2,h3,h4,h5,h6,h7⟩:=hs
 generalize hT:hear s c=T
 refine zal mixed Tryz.func34 (by decide) [] (fun _=>.inl rfl) ?_
 conv=>whnf
 (refine zao [(0,20),(1,21),(2,22),(3,23),(4,24),(5,25)]  ?_;(conv=>whnf);refine dO (zci s hs') ?_)
 by_cases c1:c.kind=2
 case neg =>
  rw [hear,if_pos c1] at hT
  subst hT
  refine zac ?_ ?_
  . simpa using c1
  exact yy74
 case pos =>
  rw [hear,if_neg (fun h=>h c1)] at hT
  refine zab ?_ ?_
  . simpa using c1
  conv=>whnf
  repeat (refine hcut.go ?_;conv=>whnf)
  have hk:=Sco.yiv s.out s.cum c ((s.paths.map Path.row).length:Nat) h3 (by rw [List.length_map];exact hr) hsp
  by_cases k1:near s.cum c.tag < s.cum \/ near s.cum c.tag > s.cum+s.out.length
  case pos =>
   rw [if_pos k1] at hT
   subst hT
   rw [Sco.sack,if_pos k1] at hk
   (refine zao [(0,31),(1,32),(2,33)]  ?_;(conv=>whnf);refine dO hk ?_)
   (refine cL ?_;refine dL (zhc s.cum c.tag) ?_)
   refine zac ?_ ?_
   . have:near s.cum c.tag ≠ s.cum:=by omega
     simpa using this
   exact yy74
  case neg =>
   rw [if_neg k1,zoo] at hT
   have hks:=znv h3 s.cum c s.paths.length
   have hlo:(Sco.sack s.out s.cum c s.paths.length).2.2.2.length <= s.out.length:=by
    rw [Sco.sack,if_neg k1]
    exact yy124
   have hK:(Sco.sack s.out s.cum c ((s.paths.map Path.row).length:Nat)).2.1=near s.cum c.tag:=by rw [Sco.sack,if_neg k1]
   rw [hK] at hk
   (refine zao [(0,31),(1,32),(2,33)]  ?_;(conv=>whnf);refine dO hk ?_)
   (refine cL ?_;refine dL (zhc s.cum c.tag) ?_)
   rw [show (near s.cum c.tag != near s.cum c.tag)=false from bne_self_eq_false _]
   conv=>whnf
   refine sD ?_
   have hcl:(Sco.sack s.out s.cum c ((s.paths.map Path.row).length:Nat)).2.2.1.length=s.paths.length:=by
    rw [Sco.sack,if_neg k1];simp only [Sco.zjk];rw [List.length_map];rfl
   have hid:s.paths.mapIdx (fun _ p=>p)=s.paths:=by apply List.ext_getElem <;> simp
   have epl:(s.paths.map Path.row).length=s.paths.length:=List.length_map _
   rw [<- epl] at hT hks hlo
   generalize Sco.sack s.out s.cum c ((s.paths.map Path.row).length:Nat)=K at hcl hK hk hT hks hlo ⊢
   rw [hK] at hT
   refine ⟨{ x:List Int × List Int // K.2.2.1=x.1++x.2 },fun | ⟨(A,B),_⟩=>hs 133 [(2,.ptr 2 0),(4,.ptr 4 0),(5,.ptr 5 0),(9,.own 907),(10,hbool (decide (near s.cum c.tag > s.cum))),(55,.own 906),(56,i64 s.paths.length),(57,i64 A.length)] ((2,.live (.cells 32 (sndC s (Sch.qs s.queue) (ints s.sched.had) (Sco.sents s.out) (pths s.paths) (ints s.mids) (ints s.fates)))) :: (4,.live (.cells 32 zeroS)) :: (5,.live (.cells 32 (sndC { s with cum:=near s.cum c.tag,room:=c.room } (.own 900) (.own 901) (.own 902) (.own 903) (.own 904) (.own 905)))) :: sndB { s with out:=K.1,paths:=comeP s.paths s.config.part (decide (near s.cum c.tag > s.cum)) A } 900 901 902 903 904 905 [(906,rowT K.2.2.1),(907,rowT K.2.2.2)]),fun x=>x.1.2.length,⟨([],K.2.2.1),rfl⟩,?_,?_⟩
   . exact (hle_X [(2,some 2),(4,some 4),(5,some 5),(900,some 20),(901,some 21),(902,some 31),(903,some 23),(904,some 24),(905,some 25),(906,some 32),(907,some 33)] (by repeat' (first | exact z0 | refine z1 ?_ | refine ⟨?_,?_⟩ | ((exact zaw (by rw [List.length_map];omega))) | ((exact zan (by simp [comeP,hid]))) | exact z2)))
   rintro ⟨⟨A,B⟩,h⟩
   dsimp only at h
   conv=>whnf
   cases B with
   | cons n B =>
    have hz:=zat h
    obtain ⟨p,hp⟩:∃ p,s.paths[A.length]?=some p:=⟨_,List.getElem?_eq_getElem (by omega)⟩
    have hpl:A.length < (comeP s.paths s.config.part (decide (near s.cum c.tag > s.cum)) A).length:=by rw [comeP,List.length_mapIdx];omega
    refine sT ?_
    refine sOm ?_
    refine zah (f:=fun n:Int=>[pi n]) h rfl ?_;conv=>whnf
    by_cases d1:n > 0
    case pos =>
     rw [show decide (n > 0)=true from decide_eq_true d1]
     conv=>whnf
     refine zaa ⟨by omega,by rw [List.length_map];exact_mod_cast hpl⟩ ?_;conv=>whnf
     refine zaj (zwc.trans hp) rfl ?_;conv=>whnf
     (refine cL ?_;refine dL (Paths.yik p n s.config.part (decide (near s.cum c.tag > s.cum))) ?_)
     refine zaa ⟨by omega,by rw [List.length_map];exact_mod_cast hpl⟩ ?_;conv=>whnf
     refine zaj (zwc.trans hp) rfl ?_;conv=>whnf
     refine sD ?_
     refine sF ?_
     exact ⟨⟨(A++[n],B),zag h⟩,(hle_X ((2,some 2) :: ((4,some 4) :: (5,some 5) :: (pJ8 []))) (by repeat' (first | exact z0 | refine z1 ?_ | refine ⟨?_,?_⟩ | ((exact (zdn rfl).trans (zan (by rw [zte hp,if_pos d1];rfl)))) | exact z2))),by simp⟩
    case neg =>
     rw [show decide (n > 0)=false from decide_eq_false d1]
     conv=>whnf
     refine sF ?_
     exact ⟨⟨(A++[n],B),zag h⟩,(hle_X ((2,some 2) :: ((4,some 4) :: (5,some 5) :: (pJ8 []))) (by repeat' (first | exact z0 | refine z1 ?_ | refine ⟨?_,?_⟩ | ((exact zan (by rw [zte hp,if_neg d1,zhv (zwc.trans hp)]))) | exact z2))),by simp⟩
   | nil =>
    have hz:=zaz h
    rw [List.append_nil] at h
    refine sN ?_
    have hcp:(comeP s.paths s.config.part (decide (near s.cum c.tag > s.cum)) A).length=s.paths.length:=by rw [comeP,List.length_mapIdx]
    (refine zae [] [(1000,5),(1001,900),(1002,901),(1003,902),(1004,903),(1005,904),(1006,905)] [(0,930),(1,931),(2,932),(3,933),(4,934),(5,935)] ?_;(conv=>whnf);refine dG (zvm { s with cum:=near s.cum c.tag,room:=c.room,out:=K.1,paths:=comeP s.paths s.config.part (decide (near s.cum c.tag > s.cum)) A } hks (by dsimp only;omega)) ?_)
    rw [show zls s c K=flights { s with cum:=near s.cum c.tag,room:=c.room,out:=K.1,paths:=comeP s.paths s.config.part (decide (near s.cum c.tag > s.cum)) A } by rw [zls,hK,h]] at hT
    have hfl:(flights { s with cum:=near s.cum c.tag,room:=c.room,out:=K.1,paths:=comeP s.paths s.config.part (decide (near s.cum c.tag > s.cum)) A }).paths.length=s.paths.length:=by
     show (List.mapIdx _ _).length=_
     rw [List.length_mapIdx];exact hcp
    have hfo:(flights { s with cum:=near s.cum c.tag,room:=c.room,out:=K.1,paths:=comeP s.paths s.config.part (decide (near s.cum c.tag > s.cum)) A }).out=K.1:=rfl
    have hft:Fit (flights { s with cum:=near s.cum c.tag,room:=c.room,out:=K.1,paths:=comeP s.paths s.config.part (decide (near s.cum c.tag > s.cum)) A }):=⟨h1,h2,hks,by omega,h5,h6,h7⟩
    generalize flights { s with cum:=near s.cum c.tag,room:=c.room,out:=K.1,paths:=comeP s.paths s.config.part (decide (near s.cum c.tag > s.cum)) A }=t at hT hfl hfo hft ⊢
    generalize decide (near s.cum c.tag > s.cum)=mv at hT ⊢
    have hpl:=hr.p0
    obtain ⟨hch,hch2⟩:=zck (s:=t) (by omega)
    obtain ⟨w,hw⟩:∃ w,t.paths[choose t]?=some w:=⟨_,List.getElem?_eq_getElem hch2⟩
    obtain ⟨K1,K2,K3,K4⟩:=K
    dsimp only at hT hcl hK hks h hz hfo hlo ⊢
    rcases List.eq_nil_or_concat K4 with rfl | ⟨L,z,rfl⟩
    case inl =>
     rw [show zif s.config.part t []=t from rfl] at hT
     conv=>whnf
     refine sD ?_
     exact yy3
    case inr =>
     rw [List.concat_eq_append] at hT ⊢
     have hU:zif s.config.part t (L++[z])=if z > t.recover then upS t s.config.part w else t:=by
      unfold zif
      rw [List.getLast?_concat]
      dsimp only
      rw [upS,setAt,hw]
     rw [hU] at hT
     have hll:((L++[z]).map (fun n:Int=>[pi n])).length=L.length+1:=by simp
     have hLl:L.length < 2 ^ 38:=by
      have:=hlo
      rw [List.concat_eq_append,List.length_append] at this
      simp only [List.length_cons,List.length_nil] at this
      have:=h3.len
      omega
     rw [show decide (((List.map (fun n:Int=>[pi n]) (L++[z])).length:Int) > 0)=true from decide_eq_true (by omega)]
     conv=>whnf
     refine sFm ?_
     refine zaa (by omega) ?_;conv=>whnf
     refine zah (f:=fun n:Int=>[pi n]) (a:=L) (b:=[]) (s:=z) rfl (by omega) ?_;conv=>whnf
     refine sD ?_
     by_cases e0:z > t.recover
     case neg =>
      rw [if_neg e0] at hT
      rw [show decide (z > t.recover)=false from decide_eq_false e0]
      conv=>whnf
      repeat (refine hcut.go ?_;conv=>whnf)
      exact yy3
     case pos =>
      rw [if_pos e0] at hT
      rw [show decide (z > t.recover)=true from decide_eq_true e0]
      conv=>whnf
      have pc:=Paths.zdd t.paths (by omega)
      rw [hch] at pc
      (refine cL ?_;refine dL pc ?_)
      refine zaa (by rw [List.length_map];omega) ?_;conv=>whnf
      refine zaj hw rfl ?_;conv=>whnf
      (refine cL ?_;refine dL (Paths.zew w s.config.part) ?_)
      refine zaa (by rw [List.length_map];omega) ?_;conv=>whnf
      refine zaj hw rfl ?_;conv=>whnf
      refine sD ?_
      refine sR ?_
      (refine zae [] [(1000,932)] [(0,960)] ?_;(conv=>whnf);refine dG (Sco.zdm t.out t.cum (by have:=hft.out.len;omega)) ?_)
      cases mv with
      | false =>
       rw [show zer false (upS t s.config.part w)=(upS t s.config.part w) from if_neg (fun h=>absurd h.1 (by decide))] at hT
       subst hT
       conv=>whnf
       (refine zae [] [(1000,5),(1001,930),(1002,931),(1003,932),(1004,933),(1005,934),(1006,935)] [(0,980),(1,981),(2,982),(3,983),(4,984),(5,985)] ?_;(conv=>whnf);refine dG (zcz (upS t s.config.part w) ((Fit.up hft))) ?_ ⟨rfl,rfl,rfl,⟨⟨rfl,_,rfl,.inl ⟨rfl,rfl⟩⟩,⟨⟨rfl,_,rfl,.inl ⟨rfl,rfl⟩⟩,⟨⟨rfl,_,rfl,.inl ⟨rfl,rfl⟩⟩,⟨⟨rfl,_,rfl,.inl ⟨rfl,rfl⟩⟩,⟨⟨rfl,_,rfl,.inl ⟨rfl,(zdn rfl)⟩⟩,⟨⟨rfl,_,rfl,.inl ⟨rfl,rfl⟩⟩,⟨⟨rfl,_,rfl,.inl ⟨rfl,rfl⟩⟩,trivial⟩⟩⟩⟩⟩⟩⟩,⟨⟨rfl,rfl⟩,⟨⟨rfl,rfl⟩,⟨⟨rfl,rfl⟩,⟨⟨rfl,rfl⟩,⟨⟨rfl,rfl⟩,⟨⟨rfl,rfl⟩,trivial⟩⟩⟩⟩⟩⟩,rfl,rfl,rfl⟩)
       exact yy7
      | true =>
       conv=>whnf
       by_cases e1:(Sco.point t.out t.cum).1 > t.cum
       case pos =>
        rw [show zer true (upS t s.config.part w)={ (upS t s.config.part w) with forward:=true } from if_pos ⟨rfl,e1⟩] at hT
        subst hT
        rw [show decide ((Sco.point t.out t.cum).1 > t.cum)=true from decide_eq_true e1]
        conv=>whnf
        (refine zae [] [(1000,5),(1001,930),(1002,931),(1003,932),(1004,933),(1005,934),(1006,935)] [(0,980),(1,981),(2,982),(3,983),(4,984),(5,985)] ?_;(conv=>whnf);refine dG (zcz ({ (upS t s.config.part w) with forward:=true }:Sender) ((Fit.fwd (Fit.up hft)))) ?_ ⟨rfl,rfl,rfl,⟨⟨rfl,_,rfl,.inl ⟨rfl,rfl⟩⟩,⟨⟨rfl,_,rfl,.inl ⟨rfl,rfl⟩⟩,⟨⟨rfl,_,rfl,.inl ⟨rfl,rfl⟩⟩,⟨⟨rfl,_,rfl,.inl ⟨rfl,rfl⟩⟩,⟨⟨rfl,_,rfl,.inl ⟨rfl,(zdn rfl)⟩⟩,⟨⟨rfl,_,rfl,.inl ⟨rfl,rfl⟩⟩,⟨⟨rfl,_,rfl,.inl ⟨rfl,rfl⟩⟩,trivial⟩⟩⟩⟩⟩⟩⟩,⟨⟨rfl,rfl⟩,⟨⟨rfl,rfl⟩,⟨⟨rfl,rfl⟩,⟨⟨rfl,rfl⟩,⟨⟨rfl,rfl⟩,⟨⟨rfl,rfl⟩,trivial⟩⟩⟩⟩⟩⟩,rfl,rfl,rfl⟩)
        exact yy7
       case neg =>
        rw [show zer true (upS t s.config.part w)=(upS t s.config.part w) from if_neg (fun h=>e1 h.2)] at hT
        subst hT
        rw [show decide ((Sco.point t.out t.cum).1 > t.cum)=false from decide_eq_false e1]
        conv=>whnf
        (refine zae [] [(1000,5),(1001,930),(1002,931),(1003,932),(1004,933),(1005,934),(1006,935)] [(0,980),(1,981),(2,982),(3,983),(4,984),(5,985)] ?_;(conv=>whnf);refine dG (zcz (upS t s.config.part w) ((Fit.up hft))) ?_ ⟨rfl,rfl,rfl,⟨⟨rfl,_,rfl,.inl ⟨rfl,rfl⟩⟩,⟨⟨rfl,_,rfl,.inl ⟨rfl,rfl⟩⟩,⟨⟨rfl,_,rfl,.inl ⟨rfl,rfl⟩⟩,⟨⟨rfl,_,rfl,.inl ⟨rfl,rfl⟩⟩,⟨⟨rfl,_,rfl,.inl ⟨rfl,(zdn rfl)⟩⟩,⟨⟨rfl,_,rfl,.inl ⟨rfl,rfl⟩⟩,⟨⟨rfl,_,rfl,.inl ⟨rfl,rfl⟩⟩,trivial⟩⟩⟩⟩⟩⟩⟩,⟨⟨rfl,rfl⟩,⟨⟨rfl,rfl⟩,⟨⟨rfl,rfl⟩,⟨⟨rfl,rfl⟩,⟨⟨rfl,rfl⟩,⟨⟨rfl,rfl⟩,trivial⟩⟩⟩⟩⟩⟩,rfl,rfl,rfl⟩)
        exact yy7
theorem ymv (s:Sender) (c:Chunk) (hs:Fit s) (hr:Sco.Right s.out s.cum s.paths.length) (hsp:c.spans.length < 2 ^ 60) :
 FunOK Tryz.prog 34 [s.hv,c.hv] zad (hear s c).hv zad:=by
 refine zbt Tryz.func34 (yiw s c hs hr hsp) ?_
 conv=>whnf
 rfl
end Snd
namespace Snd
open Ser
structure QI (c:Config) (fates:List Int) (m:Queued):Prop where
 id0:0 <= m.id
 id1:m.id < fates.length
 fate:fates[m.id.toNat]?=some 1
 st0:0 <= m.message.stream
 st1:m.message.stream < c.streams
 len1:1 <= m.message.data.length
 len2:m.message.data.length <= 60
 parts:0 <= m.parts
 sent:m.sent=m.parts * c.part
 left:m.sent < m.message.data.length
structure XI (np nf:Nat) (x:Sent):Prop where
 path0:0 <= x.path
 path1:x.path < np
 id0:0 <= x.id
 id1:x.id < nf
 spans:x.chunk.spans=[]
 skips:x.chunk.skips=[]
 data:x.chunk.data.length <= 16
def owed (q:List Queued):Int:=(q.map fun m=>61 - m.parts).sum
structure SI (N:Nat) (s:Sender):Prop where
 cfg:wrgS s.config=0
 nums:∀ (i:Nat) x,s.out[i]?=some x -> x.number=s.cum+1+i
 next:s.next=s.cum+1+s.out.length
 cum:s.config.first - 1 <= s.cum
 owes:s.next+owed s.queue <= s.config.first+61 * s.fates.length
 npaths:(s.paths.length:Int)=s.config.paths
 nhad:(s.sched.had.length:Int)=s.config.streams
 nmids:(s.mids.length:Int)=2 * s.config.streams
 waits:(s.queue.length:Int) <= s.config.waiting
 queue:∀ m ∈ s.queue,QI s.config s.fates m
 out:∀ x ∈ s.out,XI s.paths.length s.fates.length x
 flight:∀ (i:Nat) p,s.paths[i]?=some p -> p.flight=Sco.fl i s.out
 many:s.fates.length <= N
 few:N <= 2 ^ 20
theorem zca {c:Config} (h:wrgS c=0):1 <= c.streams /\ c.streams <= 4 /\ 1 <= c.paths /\ c.paths <= 2 /\ 1 <= c.part /\ c.part <= 16 /\ 40 <= c.packet /\ c.packet <= 120 /\ 1 <= c.waiting /\ c.waiting <= 12 /\ 0 <= c.first /\ c.first < 65536 /\ 1 <= (c).turns /\ (c).turns <= 5:=by
 unfold wrgS at h
 split at h
 . cases h
 . split at h
   . cases h
   . omega
theorem QI.few {c:Config} {fates:List Int} {m:Queued} (h:QI c fates m) (hp:1 <= c.part):m.parts <= 59:=by
 have h1:=h.sent
 have h2:=h.left
 have h3:=h.len2
 have h4:=h.parts
 have h5:m.parts * 1 <= m.parts * c.part:=Int.mul_le_mul_of_nonneg_left hp h4
 omega
theorem ydc {c:Config} {fates:List Int} (hp:1 <= c.part):∀ {q:List Queued},(∀ m ∈ q,QI c fates m) -> 0 <= owed q
 | [],_=>by simp [owed]
 | m :: q,h=>by
  have h1:=(h m (by simp)).few hp
  have h2:=ydc hp (q:=q) fun x hx=>h x (by simp [hx])
  simp only [owed,List.map_cons,List.sum_cons] at h2 ⊢;omega
theorem ziz (m:Queued) (q:List Queued):owed (m :: q)=61 - m.parts+owed q:=by simp [owed]
theorem zjr (a b:List Queued):owed (a++b)=owed a+owed b:=by simp [owed]
section
variable {N:Nat} {s:Sender}
theorem SI.len (h:SI N s):(s.out.length:Int) <= 61 * N:=by
 have h1:=h.next
 have h2:=h.cum
 have h3:=h.owes
 have h4:=ydc (by have:=zca h.cfg;omega) h.queue
 have h5:=h.many
 omega
theorem SI.nextle (h:SI N s):s.next <= 65536+61 * N:=by
 have h3:=h.owes
 have h4:=ydc (by have:=zca h.cfg;omega) h.queue
 have h5:=h.many
 have h6:=zca h.cfg
 omega
theorem ygh:∀ {l:List Sent},(∀ x ∈ l,x.chunk.data.length <= 16) -> Sco.total l <= 16 * l.length
 | [],_=>by simp [Sco.total]
 | x :: l,h=>by
  have h1:=h x (by simp)
  have h2:=ygh (l:=l) fun y hy=>h y (by simp [hy])
  rw [Sco.zej,List.length_cons];omega
theorem SI.total (h:SI N s):(Sco.total s.out:Int) <= 16 * (61 * N):=by
 have h1:=ygh fun x hx=>(h.out x hx).data
 have h2:=h.len
 omega
theorem SI.fit (h:SI N s):Fit s:=by
 have h1:=h.len
 have h2:=h.few
 have h3:=h.total
 have h4:=zca h.cfg
 have h5:=h.npaths
 have h6:=h.nhad
 have h7:=h.nmids
 have h8:=h.waits
 have h9:=h.many
 exact ⟨by omega,by omega,⟨by omega,by omega⟩,by omega,by omega,by omega,fun m hm=>by have:=(h.queue m hm).len2;omega⟩
theorem SI.right (h:SI N s):Sco.Right s.out s.cum s.paths.length:=by
 have h1:=h.npaths
 have h2:=zca h.cfg
 have h3:=h.nextle
 have h4:=h.next
 have h5:=h.cum
 have h6:=h.few
 exact ⟨fun x hx=>⟨(h.out x hx).path0,(h.out x hx).path1⟩,by omega,by omega,by omega,by omega,h.nums⟩
theorem SI.pf (h:SI N s):PF 62 s:=by
 have h1:=h.len
 have h2:=h.few
 have h3:=h.total
 have h4:=zca h.cfg
 have h5:=h.npaths
 have h6:=h.nhad
 have h7:=h.nmids
 have h8:=h.waits
 have h9:=h.many
 refine ⟨⟨h.fit,by omega,fun m hm=>⟨(h.queue m hm).id0,(h.queue m hm).id1⟩,fun x hx=>⟨(h.out x hx).id0,(h.out x hx).id1⟩⟩,by omega,by omega,by omega,fun m hm=>?_,fun x hx=>?_,by omega,by omega⟩
 . have q:=h.queue m hm
   have q1:=q.st0
   have q2:=q.st1
   have q3:=q.len2
   have q4:=q.sent
   have q5:=q.parts
   have q6:0 <= m.parts * s.config.part:=Int.mul_nonneg q5 (by omega)
   refine ⟨⟨q1,by omega,by omega,by omega,fun _=>?_⟩,by omega,by omega,q.left,by omega⟩
   unfold midAt
   split <;> omega
 . have q:=h.out x hx
   exact ⟨by rw [q.spans];decide,by rw [q.skips];decide⟩
theorem SI.mono {M:Nat} (h:SI N s) (h1:N <= M) (h2:M <= 2 ^ 20):SI M s:=⟨h.cfg,h.nums,h.next,h.cum,h.owes,h.npaths,h.nhad,h.nmids,h.waits,h.queue,h.out,h.flight,Nat.le_trans h.many h1,h2⟩
end
theorem yvh {c:Config} (h:wrgS c=0):SI 0 (newS c):=by
 obtain ⟨h1,h2,h3,h4,h5,h6,h7,h8,h9,h10,h11,h12,h13,h14⟩:=zca h
 refine ⟨h,fun i x hx=>?_,?_,?_,?_,?_,?_,?_,?_,fun m hm=>?_,fun x hx=>?_,fun i p hp=>?_,?_,by decide⟩
 . simp [newS] at hx
 . simp [newS]
 . show c.first - 1 <= c.first - 1;omega
 . show c.first+owed [] <= c.first+61 * (([]:List Int).length:Int);simp [owed]
 . show ((List.replicate c.paths.toNat (Paths.new c.part)).length:Int)=c.paths;simp;omega
 . show ((Sch.new c.streams).had.length:Int)=c.streams
   simp [Sch.new];omega
 . show ((List.replicate (2 * c.streams).toNat (0:Int)).length:Int)=2 * c.streams;simp;omega
 . show (([]:List Queued).length:Int) <= c.waiting;simp;omega
 . simp [newS] at hm
 . simp [newS] at hx
 . have hp:(List.replicate c.paths.toNat (Paths.new c.part))[i]?=some p:=hp
   rw [List.getElem?_replicate] at hp
   split at hp
   . cases hp;simp [Paths.new,Sco.fl,newS]
   . cases hp
 . show ([]:List Int).length <= 0;simp
theorem QI.more {c:Config} {fates:List Int} {m:Queued} (h:QI c fates m) (f:Int):QI c (fates++[f]) m :=
 ⟨h.id0,by have:=h.id1;simp;omega,by have:=h.id0;have:=h.id1;rw [List.getElem?_append_left (by omega)];exact h.fate,h.st0,h.st1,h.len1,h.len2,h.parts,h.sent,h.left⟩
theorem XI.more {np nf nf':Nat} {x:Sent} (h:XI np nf x) (hn:nf <= nf'):XI np nf' x:=⟨h.path0,h.path1,h.id0,by have:=h.id1;omega,h.spans,h.skips,h.data⟩
theorem zwd {N:Nat} {s:Sender} {m:Message} (h:SI N s) (he:zdl s m=0) (hN:N+1 <= 2 ^ 20):SI (N+1) (sendS s m):=by
 unfold zdl at he
 split at he
 . cases he
 split at he
 . cases he
 split at he
 . cases he
 rename_i c1 c2 c3
 refine ⟨h.cfg,h.nums,h.next,h.cum,?_,h.npaths,h.nhad,h.nmids,?_,fun q hq=>?_,fun x hx=>(h.out x hx).more (by simp [sendS]),h.flight,?_,hN⟩
 . have h1:=h.owes
   show s.next+owed (s.queue++[⟨s.fates.length,-1,s.clock,0,0,m⟩]) <= s.config.first+61 * ((s.fates++[1]).length:Int)
   rw [zjr,ziz]
   simp only [owed,List.map_nil,List.sum_nil,List.length_append,List.length_cons,List.length_nil] at h1 ⊢
   push_cast;omega
 . show ((s.queue++[_]).length:Int) <= s.config.waiting
   simp;omega
 . rcases List.mem_append.1 hq with hq | hq
   . exact (h.queue q hq).more 1
   . rw [List.mem_singleton] at hq;subst hq
     exact ⟨by simp,by simp [sendS];omega,by simp [sendS],by dsimp only;omega,by show m.stream < s.config.streams;omega,by dsimp only;omega,by dsimp only;omega,by simp,by simp,by dsimp only;omega⟩
 . have:=h.many
   show (s.fates++[1]).length <= N+1;simp;omega
theorem ymw (id:Int) (s:Sender) (m:Queued) (hm:m.parts <= 60):W (s.next+1)=s.next+1 -> (end1 id s m).next+owed ([m].filter fun m=>decide (m.id ≠ id)) <= s.next+owed [m]:=by
 intro hW
 unfold end1
 by_cases c:m.id=id
 . have e1:[m].filter (fun m=>decide (m.id ≠ id))=[]:=by simp [c]
   rw [e1]
   split
   . show W (s.next+1)+owed [] <= _
     simp only [owed,List.map_nil,List.sum_nil,List.map_cons,List.sum_cons];omega
   . simp only [owed,List.map_nil,List.sum_nil,List.map_cons,List.sum_cons];omega
 . rw [if_neg (fun h=>c h.1)]
   simp [c,owed]
theorem ygi (id:Int):∀ (q:List Queued) (s:Sender),(∀ m ∈ q,m.parts <= 60) -> -1000 <= s.next -> s.next+q.length < 2 ^ 60 -> s.next=s.cum+1+s.out.length -> (∀ (i:Nat) x,s.out[i]?=some x -> x.number=s.cum+1+i) ->
 (q.foldl (end1 id) s).next=s.cum+1+(q.foldl (end1 id) s).out.length /\ (∀ (i:Nat) x,(q.foldl (end1 id) s).out[i]?=some x -> x.number=s.cum+1+i) /\ (q.foldl (end1 id) s).next+owed (q.filter fun m=>decide (m.id ≠ id)) <= s.next+owed q
 | [],s,_,_,_,h1,h2=>⟨h1,h2,Int.le_refl _⟩
 | m :: q,s,hq,h0,hb,h1,h2=>by
  have hW:W (s.next+1)=s.next+1:=by simp only [List.length_cons] at hb;exact W_fit (by omega) (by omega)
  have hk:=ztb id s m
  have hcum:(end1 id s m).cum=s.cum:=by rw [hk]
  have ho:=ymw id s m (hq m (by simp)) hW
  have h1':(end1 id s m).next=(end1 id s m).cum+1+(end1 id s m).out.length /\ s.next <= (end1 id s m).next /\ (end1 id s m).next <= s.next+1:=by
   unfold end1
   split
   . dsimp only;rw [hW];simp;omega
   . exact ⟨h1,by omega,by omega⟩
  have h2':∀ (i:Nat) x,(end1 id s m).out[i]?=some x -> x.number=(end1 id s m).cum+1+i:=by
   rw [hcum]
   unfold end1
   split
   . intro i x hx
     have hx:(s.out++[endOf s.next m])[i]?=some x:=hx
     rcases Nat.lt_or_ge i s.out.length with hi | hi
     . rw [List.getElem?_append_left hi] at hx;exact h2 i x hx
     . rw [List.getElem?_append_right hi] at hx
       have:i - s.out.length=0:=by
        rcases Nat.eq_zero_or_pos (i - s.out.length) with h | h
        . exact h
        . rw [List.getElem?_eq_none (by simp;omega)] at hx;cases hx
       rw [this] at hx
       cases hx
       show s.next=_
       omega
   . exact h2
  obtain ⟨r1,r2,r3⟩:=ygi id q (end1 id s m) (fun x hx=>hq x (by simp [hx])) (by omega) (by simp only [List.length_cons] at hb;push_cast at hb;omega) h1'.1 h2'
  rw [List.foldl_cons]
  rw [hcum] at r1 r2
  refine ⟨r1,r2,?_⟩
  have e1:(m :: q).filter (fun m=>decide (m.id ≠ id))=[m].filter (fun m=>decide (m.id ≠ id))++q.filter fun m=>decide (m.id ≠ id):=by rw [<- List.filter_append];rfl
  rw [e1,zjr,ziz]
  simp only [owed,List.map_cons,List.map_nil,List.sum_cons,List.sum_nil] at ho r3 ⊢
  omega
theorem ymx {np nf:Nat} (id:Int) (hnp:0 < np) (hid:0 <= id /\ id < nf):∀ (q:List Queued) (s:Sender),(∀ x ∈ s.out,XI np nf x) -> ∀ x ∈ (q.foldl (end1 id) s).out,XI np nf x
 | [],s,h,x,hx=>h x hx
 | m :: q,s,h,x,hx=>by
  refine ymx id hnp hid q (end1 id s m) (fun y hy=>?_) x hx
  unfold end1 at hy
  split at hy
  . rename_i c
    rcases List.mem_append.1 hy with hy | hy
    . exact h y hy
    . rw [List.mem_singleton] at hy;subst hy
      exact ⟨Int.le_refl _,by show (0:Int) < np;omega,by show 0 <= m.id;omega,by show m.id < nf;omega,rfl,rfl,by simp [endOf]⟩
  . exact h y hy
theorem ztf {s:Sender} {i:Nat} {p:Path} (h:(flights s).paths[i]?=some p):p.flight=Sco.fl i s.out:=by
 have h:(s.paths.mapIdx fun i p=>flP s.out i p)[i]?=some p:=h
 rw [List.getElem?_mapIdx] at h
 cases hp:s.paths[i]? with
 | none=>rw [hp] at h;cases h
 | some q=>rw [hp] at h;cases h;rfl
theorem zop (s:Sender) (id:Nat):(giveS s id).out=(s.queue.foldl (end1 id) { s with fates:=s.fates.set id 3 }).out.map (Sco.give id):=rfl
theorem zzr (s:Sender) (id:Nat):(giveS s id).next=(s.queue.foldl (end1 id) { s with fates:=s.fates.set id 3 }).next:=rfl
theorem zmw (s:Sender) (id:Nat):(giveS s id).queue=s.queue.filter fun m=>decide (m.id ≠ (id:Int)):=rfl
theorem zmx (s:Sender) (id:Nat):(giveS s id).fates=s.fates.set id 3:=by
 show (s.queue.foldl (end1 id) { s with fates:=s.fates.set id 3 }).fates=_
 rw [zjo]
theorem ydd {s:Sender} {id:Nat} {i:Nat} {p:Path} (h:(giveS s id).paths[i]?=some p):p.flight=Sco.fl i (giveS s id).out:=by
 unfold giveS at h ⊢
 dsimp only at h ⊢
 have:=ztf h
 exact this
theorem yde {N:Nat} {s:Sender} (h:SI N s) {id:Nat} (hid:id < s.fates.length):SI N (giveS s id):=by
 obtain ⟨r,-,-,-⟩:=zhg s id
 have hw:=zca h.cfg
 have hl:=h.nextle
 have hw2:=h.waits
 have hf:=h.few
 have hc:=h.cum
 have hn:=h.next
 obtain ⟨e1,e2,e3⟩:=ygi id s.queue { s with fates:=s.fates.set id 3 } (fun m hm=>by have:=(h.queue m hm).few (by omega);omega) (by dsimp only;omega) (by dsimp only;omega) h.next h.nums
 refine ⟨by rw [r.config];exact h.cfg,fun i x hx=>?_,?_,by rw [r.config,r.cum];exact h.cum,?_,by rw [r.paths,r.config];exact h.npaths,by rw [r.had,r.config];exact h.nhad,by rw [r.mids,r.config];exact h.nmids,?_,fun m hm=>?_,fun x hx=>?_,fun i p hp=>?_,by rw [r.fates];exact h.many,h.few⟩
 . rw [zop,List.getElem?_map] at hx
   cases hy:(s.queue.foldl (end1 id) { s with fates:=s.fates.set id 3 }).out[i]? with
   | none=>rw [hy] at hx;cases hx
   | some y =>
    rw [hy] at hx
    cases hx
    rw [r.cum,show (Sco.give id y).number=y.number by unfold Sco.give;split <;> rfl]
    exact e2 i y hy
 . rw [zzr,zop,r.cum,List.length_map];exact e1
 . rw [zzr,zmw,r.config,r.fates]
   have:=h.owes
   dsimp only at e3
   omega
 . rw [zmw,r.config]
   have:=List.length_filter_le (fun m:Queued=>decide (m.id ≠ (id:Int))) s.queue
   omega
 . rw [zmw] at hm
   obtain ⟨hm1,hm2⟩:=List.mem_filter.1 hm
   have hm2:m.id ≠ id:=of_decide_eq_true hm2
   have q:=h.queue m hm1
   have q0:=q.id0
   rw [r.config,zmx]
   exact ⟨q.id0,by rw [List.length_set];exact q.id1,by rw [List.getElem?_set_ne (by omega)];exact q.fate,q.st0,q.st1,q.len1,q.len2,q.parts,q.sent,q.left⟩
 . rw [zop] at hx
   obtain ⟨y,hy,rfl⟩:=List.mem_map.1 hx
   have hp:=h.npaths
   have:=ymx (np:=s.paths.length) (nf:=s.fates.length) id (by omega) ⟨by omega,by omega⟩ s.queue { s with fates:=s.fates.set id 3 } h.out y hy
   rw [r.paths,r.fates]
   unfold Sco.give
   split
   . exact ⟨this.path0,this.path1,this.id0,this.id1,this.spans,this.skips,this.data⟩
   . exact this
 . exact ydd hp
theorem ymy {N:Nat} {s:Sender} (h:SI N s) {m:Queued} (hm:0 <= m.id /\ m.id < s.fates.length):SI N (expQ s m) /\ (expQ s m).fates.length=s.fates.length:=by
 unfold expQ
 exact yy121
theorem ymz {N:Nat} {s:Sender} (h:SI N s) {m:Sent} (hm:0 <= m.id /\ m.id < s.fates.length):SI N (expX s m) /\ (expX s m).fates.length=s.fates.length:=by
 unfold expX
 exact yy121
theorem zwe {N:Nat}:∀ (q:List Queued) (s:Sender),SI N s -> (∀ m ∈ q,0 <= m.id /\ m.id < s.fates.length) -> SI N (q.foldl expQ s) /\ (q.foldl expQ s).fates.length=s.fates.length
 | [],s,h,_=>⟨h,rfl⟩
 | m :: q,s,h,hq=>by
  obtain ⟨a,b⟩:=ymy h (hq m (by simp))
  obtain ⟨c,d⟩:=zwe q (expQ s m) a fun x hx=>by rw [b];exact hq x (by simp [hx])
  exact ⟨c,d.trans b⟩
theorem ygj {N:Nat}:∀ (q:List Sent) (s:Sender),SI N s -> (∀ m ∈ q,0 <= m.id /\ m.id < s.fates.length) -> SI N (q.foldl expX s) /\ (q.foldl expX s).fates.length=s.fates.length
 | [],s,h,_=>⟨h,rfl⟩
 | m :: q,s,h,hq=>by
  obtain ⟨a,b⟩:=ymz h (hq m (by simp))
  obtain ⟨c,d⟩:=ygj q (expX s m) a fun x hx=>by rw [b];exact hq x (by simp [hx])
  exact ⟨c,d.trans b⟩
theorem zqs {N:Nat} {s:Sender} (h:SI N s):SI N (expire s) /\ (expire s).fates.length=s.fates.length:=by
 obtain ⟨a,b⟩:=zwe s.queue s h fun m hm=>⟨(h.queue m hm).id0,(h.queue m hm).id1⟩
 obtain ⟨c,d⟩:=ygj (s.queue.foldl expQ s).out _ a fun x hx=>⟨(a.out x hx).id0,(a.out x hx).id1⟩
 exact ⟨c,d.trans b⟩
end Snd
namespace Snd
open Ser
theorem zds {α:Type} (l:List α) (k:Nat) (f:α -> α):(setAt l k f).length=l.length:=by
 unfold setAt;split <;> simp
theorem zqt {α:Type} {l:List α} {k:Nat} {f:α -> α} {i:Nat} {y:α} (h:(setAt l k f)[i]?=some y):(i ≠ k /\ l[i]?=some y) \/ (i=k /\ ∃ x,l[k]?=some x /\ y=f x):=by
 unfold setAt at h
 split at h
 . rename_i hn
   by_cases e:i=k
   . subst e;rw [hn] at h;cases h
   . exact .inl ⟨e,h⟩
 . rename_i x hx
   by_cases e:i=k
   . subst e
     have hk:=(List.getElem?_eq_some_iff.1 hx).1
     rw [List.getElem?_set_self hk] at h
     cases h
     exact .inr ⟨rfl,x,hx,rfl⟩
   . rw [List.getElem?_set_ne (fun h=>e h.symm)] at h;exact .inl ⟨e,h⟩
theorem zmy (p:Int) (x:Sent) (l:List Sent):Sco.fl p (x :: l)=Sco.fl p [x]+Sco.fl p l:=by
 rw [show x :: l=[x]++l from rfl,Sco.yfr]
theorem ysn (p:Int):∀ {l:List Sent} {i:Nat} {x:Sent},l[i]?=some x -> ∀ y,Sco.fl p (l.set i y)+Sco.fl p [x]=Sco.fl p l+Sco.fl p [y]
 | [],i,x,h,y=>by simp at h
 | z :: l,0,x,h,y=>by
  simp only [List.getElem?_cons_zero,Option.some.injEq] at h
  subst h
  rw [List.set_cons_zero,zmy,zmy p z l];omega
 | z :: l,i+1,x,h,y=>by
  simp only [List.getElem?_cons_succ] at h
  have:=ysn p h y
  rw [List.set_cons_succ,zmy,zmy p z l];omega
section
variable {N:Nat} {s:Sender}
theorem SI.side (h:SI N s) {ps:List Path} {k:Int} {r:Int} {f:Bool} {z:Int} (hl:ps.length=s.paths.length) (hf:∀ (i:Nat) p,ps[i]?=some p -> p.flight=Sco.fl i s.out) :
 SI N { s with paths:=ps,clock:=k,room:=r,forward:=f,recover:=z } :=
 ⟨h.cfg,h.nums,h.next,h.cum,h.owes,by show (ps.length:Int)=_;rw [hl];exact h.npaths,h.nhad,h.nmids,h.waits,h.queue,fun x hx=>by show XI ps.length _ x;rw [hl];exact h.out x hx,hf,h.many,h.few⟩
theorem choose_lt' (h:SI N s):choose s < s.paths.length:=(zck h.pf.some).2
theorem zfs {o:List (List Chunk)} (h:SI N s):SI N (forward ⟨s,o⟩).s:=by
 unfold forward
 split
 . exact h
 . refine h.side (zds _ _ _) fun i p hp=>?_
   rcases zqt hp with ⟨-,hp⟩ | ⟨rfl,q,hq,rfl⟩
   . exact h.flight i p hp
   . rw [<- h.flight _ q hq]
     unfold alarm;split <;> rfl
theorem yna {p:Pump} (h:SI N p.s) {i path:Nat} {x:Sent} (hx:p.s.out[i]?=some x) (hst:x.state ≠ 1) (hp:path < p.s.paths.length):SI N (fly p i path).s:=by
 obtain ⟨s,o⟩:=p
 dsimp only at h hx hp
 have hxm:=List.mem_of_getElem? hx
 have hxi:=h.out x hxm
 have hil:=(List.getElem?_eq_some_iff.1 hx).1
 have hw:=zca h.cfg
 have hnp:=h.npaths
 have htot:=h.total
 have hfew:=h.few
 have h0:∀ q:Int,Sco.fl q [x]=0:=fun q=>by rw [Sco.zqb,if_neg (fun h=>hst h.1)]
 unfold fly
 simp only [hx]
 refine ⟨h.cfg,fun j y hy=>?_,?_,h.cum,h.owes,?_,h.nhad,h.nmids,h.waits,h.queue,fun y hy=>?_,fun j q hq=>?_,h.many,h.few⟩
 . have hy:(s.out.set i (flyX x path))[j]?=some y:=hy
   by_cases e:i=j
   . subst e
     rw [List.getElem?_set_self hil] at hy
     cases hy
     exact h.nums i x hx
   . rw [List.getElem?_set_ne e] at hy;exact h.nums j y hy
 . show s.next=s.cum+1+((s.out.set i _).length:Int)
   rw [List.length_set];exact h.next
 . show ((setAt s.paths path _).length:Int)=_
   rw [zds];exact h.npaths
 . have hy:y ∈ s.out.set i (flyX x path):=hy
   show XI (setAt s.paths path _).length _ y
   rw [zds]
   rcases List.mem_or_eq_of_mem_set hy with hy | rfl
   . exact h.out y hy
   . exact ⟨by show (0:Int) <= path;omega,by show (path:Int) < s.paths.length;omega,hxi.id0,hxi.id1,hxi.spans,hxi.skips,hxi.data⟩
 . show q.flight=(Sco.fl j (s.out.set i (flyX x path)):Nat)
   have e1:=ysn (j:Int) hx (flyX x path)
   rw [h0] at e1
   have e2:Sco.fl (j:Int) [flyX x path]=if path=j then x.chunk.data.length else 0:=by
    rw [Sco.zqb]
    by_cases e:path=j
    . rw [if_pos e,if_pos ⟨rfl,by show (path:Int)=j;omega⟩];rfl
    . rw [if_neg e,if_neg (by rintro ⟨-,h⟩;have h:(path:Int)=j:=h;omega)]
   rcases zqt hq with ⟨ne,hq⟩ | ⟨rfl,w,hw2,rfl⟩
   . rw [h.flight j q hq]
     rw [if_neg (fun h=>ne h.symm)] at e2
     omega
   . rw [if_pos rfl] at e2
     have e3:=h.flight j w hw2
     have e4:=Sco.fl_le (j:Int) s.out
     have e5:=hxi.data
     show W (w.flight+x.chunk.data.length)=_
     rw [e3,W_fit (by omega) (by omega)]
     omega
theorem zlt {p:Pump} (h:SI N p.s) {path:Nat} (hp:path < p.s.paths.length) (i:Nat):SI N (zcd path p i).s /\ (zcd path p i).s.paths.length=p.s.paths.length:=by
 unfold zcd
 split
 . exact ⟨h,rfl⟩
 . rename_i x hx
   split
   . rename_i c
     refine ⟨yna h hx (by rw [c.1];decide) hp,?_⟩
     unfold fly
     simp only [hx]
     exact zds _ _ _
   . exact ⟨h,rfl⟩
theorem zzs {path:Nat}:∀ (L:List Nat) {p:Pump},SI N p.s -> path < p.s.paths.length -> SI N (L.foldl (zcd path) p).s
 | [],_,h,_=>h
 | i :: L,p,h,hp=>by
  obtain ⟨a,b⟩:=zlt h hp i
  exact zzs L a (by rw [b];exact hp)
theorem zoq {p:Pump} (h:SI N p.s):SI N (again p).s:=zzs _ h (choose_lt' h)
theorem yqz {q:List Queued} {k:Nat} {m y:Queued} (h:q[k]?=some m):owed (q.set k y)=owed q+m.parts - y.parts:=by
 obtain ⟨a,b,rfl,rfl⟩:∃ a b,q=a++m :: b /\ a.length=k:=⟨q.take k,q.drop (k+1),by
  have hk:=(List.getElem?_eq_some_iff.1 h)
  obtain ⟨hk,e⟩:=hk
  rw [<- e,List.getElem_cons_drop,List.take_append_drop],by have:=(List.getElem?_eq_some_iff.1 h).1;simp;omega⟩
 rw [List.set_append_right _ _ (Nat.le_refl _),Nat.sub_self,List.set_cons_zero,zjr,zjr,ziz,ziz];omega
theorem yix {q:List Queued} {k:Nat} {m:Queued} (h:q[k]?=some m):owed (q.eraseIdx k)=owed q+m.parts - 61:=by
 obtain ⟨a,b,rfl,rfl⟩:∃ a b,q=a++m :: b /\ a.length=k:=⟨q.take k,q.drop (k+1),by
  have hk:=(List.getElem?_eq_some_iff.1 h)
  obtain ⟨hk,e⟩:=hk
  rw [<- e,List.getElem_cons_drop,List.take_append_drop],by have:=(List.getElem?_eq_some_iff.1 h).1;simp;omega⟩
 rw [List.eraseIdx_append_of_length_le (Nat.le_refl _),Nat.sub_self,List.eraseIdx_cons_zero,zjr,zjr,ziz];omega
theorem yiy (s:Sender) (m:Queued):(zcm s m).length=s.mids.length:=by
 unfold zcm;split
 . exact zds _ _ _
 . rfl
theorem ynb (sc:Sched) (m:Queued) (n:Int) (o:Bool):(Sch.had sc m n o).had.length=sc.had.length:=by
 unfold Sch.had
 dsimp only
 split <;> simp
def cutS (s:Sender) (k:Nat) (m:Queued):Sender :=
 { s with mids:=zcm s m,sched:=Sch.had s.sched { m with mid:=midOf s m } (many s m) (decide (m.sent+many s m=m.message.data.length)),out:=s.out++[⟨s.next,m.id,0,0,0,0,m.came,m.message.life,m.message.tries,cut s m (many s m)⟩],next:=W (s.next+1),queue:=if decide (m.sent+many s m=m.message.data.length) then s.queue.eraseIdx k else s.queue.set k { m with mid:=midOf s m,sent:=m.sent+many s m,parts:=W (m.parts+1) } }
theorem zec (s:Sender) (o:List (List Chunk)) (k:Nat) (m:Queued):next1 ⟨s,o⟩ k m (many s m)=fly ⟨cutS s k m,o⟩ s.out.length (choose s):=rfl
theorem ync (h:SI N s) {k:Nat} {m:Queued} (hm:s.queue[k]?=some m):SI N (cutS s k m):=by
 have hw:=zca h.cfg
 have q:=h.queue m (List.mem_of_getElem? hm)
 have hfew:=q.few (by omega)
 have hN:=h.few
 have hnl:=h.nextle
 have hcum:=h.cum
 have hnx:=h.next
 have hp:=h.npaths
 have q1:=q.parts
 have q2:=q.sent
 have q3:=q.left
 have q4:=q.len2
 have q5:0 <= m.parts * s.config.part:=Int.mul_nonneg q1 (by omega)
 obtain ⟨n1,n2,n3⟩:=zmu (s:=s) (m:=m) (by omega) (by omega) (by omega) q3 (by omega)
 have n4:many s m <= s.config.part:=by unfold many;split <;> omega
 have hW:W (s.next+1)=s.next+1:=W_fit (by omega) (by omega)
 have hWp:W (m.parts+1)=m.parts+1:=W_fit (by omega) (by omega)
 refine ⟨h.cfg,fun j y hy=>?_,?_,h.cum,?_,h.npaths,?_,?_,?_,fun y hy=>?_,fun y hy=>?_,fun j p hp=>?_,h.many,h.few⟩
 . have hy:(s.out++[_])[j]?=some y:=hy
   rcases Nat.lt_or_ge j s.out.length with hj | hj
   . rw [List.getElem?_append_left hj] at hy;exact h.nums j y hy
   . rw [List.getElem?_append_right hj] at hy
     have e:j - s.out.length=0:=by
      rcases Nat.eq_zero_or_pos (j - s.out.length) with h | h
      . exact h
      . rw [List.getElem?_eq_none (by simp;omega)] at hy;cases hy
     rw [e] at hy
     cases hy
     show s.next=s.cum+1+j
     omega
 . show W (s.next+1)=s.cum+1+((s.out++[_]).length:Int)
   rw [hW,List.length_append,List.length_singleton];push_cast;omega
 . have:=h.owes
   show W (s.next+1)+owed (if decide (m.sent+many s m=m.message.data.length) then s.queue.eraseIdx k else s.queue.set k { m with mid:=midOf s m,sent:=m.sent+many s m,parts:=W (m.parts+1) }) <= s.config.first+61 * (s.fates.length:Int)
   rw [hW]
   split
   . rw [yix hm];omega
   . rw [yqz hm];dsimp only;rw [hWp];omega
 . show ((Sch.had s.sched _ _ _).had.length:Int)=_
   rw [ynb];exact h.nhad
 . show ((zcm s m).length:Int)=_
   rw [yiy];exact h.nmids
 . show ((if decide (m.sent+many s m=m.message.data.length) then s.queue.eraseIdx k else s.queue.set k { m with mid:=midOf s m,sent:=m.sent+many s m,parts:=W (m.parts+1) }).length:Int) <= s.config.waiting
   have:=h.waits
   split
   . rw [List.length_eraseIdx];split <;> omega
   . rw [List.length_set];exact this
 . have hy:y ∈ (if decide (m.sent+many s m=m.message.data.length) then s.queue.eraseIdx k else s.queue.set k { m with mid:=midOf s m,sent:=m.sent+many s m,parts:=W (m.parts+1) }):=hy
   show QI s.config s.fates y
   split at hy
   . exact h.queue y (List.mem_of_mem_eraseIdx hy)
   . rename_i c
     have c:m.sent+many s m ≠ m.message.data.length:=by simpa using c
     rcases List.mem_or_eq_of_mem_set hy with hy | rfl
     . exact h.queue y hy
     . have e:many s m=s.config.part:=by
        unfold many at c ⊢
        split at c
        . omega
        . rename_i c2;rw [if_neg c2]
       refine ⟨q.id0,q.id1,q.fate,q.st0,q.st1,q.len1,q.len2,?_,?_,?_⟩
       . show 0 <= W (m.parts+1);omega
       . show m.sent+many s m=W (m.parts+1) * s.config.part
         rw [hWp,e,q2,Int.add_mul,Int.one_mul]
       . show m.sent+many s m < m.message.data.length;omega
 . have hy:y ∈ s.out++[_]:=hy
   rcases List.mem_append.1 hy with hy | hy
   . exact h.out y hy
   . rw [List.mem_singleton] at hy;subst hy
     refine ⟨Int.le_refl _,by show (0:Int) < s.paths.length;omega,q.id0,q.id1,rfl,rfl,?_⟩
     show ((m.message.data.drop m.sent.toNat).take (many s m).toNat).length <= 16
     rw [List.length_take];omega
 . show p.flight=(Sco.fl j (s.out++[_]):Nat)
   rw [Sco.yfr,h.flight j p hp,Sco.zqb,if_neg (by rintro ⟨h,-⟩;cases h)];rfl
theorem zqu {p q:Pump} (h:SI N p.s) (hq:next p=some q):SI N q.s:=by
 obtain ⟨s,o⟩:=p
 unfold next at hq
 dsimp only at hq h
 split at hq
 . cases hq
 rename_i c
 cases hm:s.queue[(zcy s).toNat]? with
 | none=>rw [hm] at hq;cases hq
 | some m =>
  rw [hm] at hq
  dsimp only at hq
  split at hq
  . cases hq
  . cases hq
    rw [zec]
    have h2:=ync h hm
    exact yna (p:=⟨cutS s (zcy s).toNat m,o⟩) h2 (x:=⟨s.next,m.id,0,0,0,0,m.came,m.message.life,m.message.tries,cut s m (many s m)⟩) (by show (s.out++[_])[s.out.length]?=_;simp) (by intro h;cases h) (choose_lt' h)
theorem ygk:∀ (n:Nat) {p:Pump},SI N p.s -> SI N (nexts n p).s
 | 0,_,h=>h
 | n+1,p,h=>by
  unfold nexts
  split
  . exact h
  . rename_i q hq;exact ygk n (zqu h hq)
theorem yra (h:SI N s):SI N (woken s):=by
 refine h.side (by simp) fun i p hp=>?_
 rw [List.getElem?_map] at hp
 cases hq:s.paths[i]? with
 | none=>rw [hq] at hp;cases hp
 | some q =>
  rw [hq] at hp
  cases hp
  rw [<- h.flight i q hq]
  unfold wake
  split
  . rfl
  . split <;> rfl
theorem yue (h:SI N s):SI N (pump s).1:=yra (ygk 61 (zoq (zfs (zqs h).1)))
theorem zqv {n:Int}:∀ {l:List Sent} {cum:Int},(∀ (i:Nat) x,l[i]?=some x -> x.number=cum+1+i) -> cum <= n -> l.filter (fun x=>decide (x.number > n))=l.drop (n - cum).toNat
 | [],_,_,_=>by simp
 | x :: l,cum,h,hn=>by
  have h0:=h 0 x rfl
  have h1:∀ (i:Nat) y,l[i]?=some y -> y.number=cum+1+1+i:=fun i y hy=>by
   have:=h (i+1) y (by rw [List.getElem?_cons_succ];exact hy)
   push_cast at this;omega
  by_cases c:cum=n
  . subst c
    have:∀ y ∈ x :: l,y.number > cum:=fun y hy=>by
     obtain ⟨i,hi⟩:=List.getElem?_of_mem hy
     have:=h i y hi;omega
    rw [List.filter_eq_self.2 fun y hy=>decide_eq_true (this y hy)];simp
  . rw [List.filter_cons,if_neg (by simp at h0 ⊢;omega),zqv h1 (by omega)]
    have:(n - cum).toNat=(n - (cum+1)).toNat+1:=by omega
    rw [this,List.drop_succ_cons]
theorem yuf {l:List Sent} {cum:Int} {c:Chunk} {np:Int} (h:∀ (i:Nat) x,l[i]?=some x -> x.number=cum+1+i) (hk:¬ (near cum c.tag < cum \/ near cum c.tag > cum+l.length)) :
 ∃ g:Sent -> Sent,(∀ x,(g x).number=x.number /\ (g x).path=x.path /\ (g x).id=x.id /\ (g x).chunk=x.chunk) /\ (Sco.sack l cum c np).1=(l.drop (near cum c.tag - cum).toNat).map g:=by
 refine ⟨fun x=>Sco.age (Sco.znp c (near cum c.tag) l) (Sco.turn c (near cum c.tag) x),fun x=>?_,?_⟩
 . have e1:∀ (k:Int) y,(Sco.age k y).number=y.number /\ (Sco.age k y).path=y.path /\ (Sco.age k y).id=y.id /\ (Sco.age k y).chunk=y.chunk:=fun k y=>by unfold Sco.age;(repeat' split) <;> exact ⟨rfl,rfl,rfl,rfl⟩
   have e2:∀ k y,(Sco.turn c k y).number=y.number /\ (Sco.turn c k y).path=y.path /\ (Sco.turn c k y).id=y.id /\ (Sco.turn c k y).chunk=y.chunk:=fun k y=>by unfold Sco.turn;split <;> exact ⟨rfl,rfl,rfl,rfl⟩
   obtain ⟨a1,a2,a3,a4⟩:=e1 (Sco.znp c (near cum c.tag) l) (Sco.turn c (near cum c.tag) x)
   obtain ⟨b1,b2,b3,b4⟩:=e2 (near cum c.tag) x
   exact ⟨a1.trans b1,a2.trans b2,a3.trans b3,a4.trans b4⟩
 . rw [Sco.sack,if_neg hk]
   dsimp only
   rw [Sco.left,zqv h (by omega),List.map_map];rfl
theorem zzt (h:SI N s) {c:Chunk} (hk:¬ (near s.cum c.tag < s.cum \/ near s.cum c.tag > s.cum+s.out.length)):SI N (zls s c (Sco.sack s.out s.cum c s.paths.length)):=by
 obtain ⟨g,hg,e⟩:=yuf (np:=s.paths.length) h.nums hk
 have e2:(Sco.sack s.out s.cum c s.paths.length).2.1=near s.cum c.tag:=by rw [Sco.sack,if_neg hk]
 have hl:(zls s c (Sco.sack s.out s.cum c s.paths.length)).paths.length=s.paths.length:=by
  show (List.mapIdx _ (List.mapIdx _ _)).length=_
  simp
 have ho:(zls s c (Sco.sack s.out s.cum c s.paths.length)).out=(s.out.drop (near s.cum c.tag - s.cum).toNat).map g:=e
 have hc:(zls s c (Sco.sack s.out s.cum c s.paths.length)).cum=near s.cum c.tag:=e2
 have hn:=h.next
 have hcu:=h.cum
 refine ⟨h.cfg,fun i x hx=>?_,?_,?_,h.owes,by rw [hl];exact h.npaths,h.nhad,h.nmids,h.waits,h.queue,fun x hx=>?_,fun i p hp=>?_,h.many,h.few⟩
 case refine_5=>have:=ztf (s:={ s with out:=(Sco.sack s.out s.cum c s.paths.length).1,cum:=(Sco.sack s.out s.cum c s.paths.length).2.1,room:=c.room,paths:=comeP s.paths s.config.part (decide ((Sco.sack s.out s.cum c s.paths.length).2.1 > s.cum)) (Sco.sack s.out s.cum c s.paths.length).2.2.1 }) hp;exact this
 . rw [ho,List.getElem?_map,List.getElem?_drop] at hx
   cases hy:s.out[(near s.cum c.tag - s.cum).toNat+i]? with
   | none=>rw [hy] at hx;cases hx
   | some y =>
    rw [hy] at hx
    cases hx
    rw [(hg y).1,h.nums _ y hy,hc];push_cast;omega
 . rw [ho,hc,List.length_map,List.length_drop]
   show s.next=_
   omega
 . rw [hc];show s.config.first - 1 <= _;omega
 . rw [ho] at hx
   obtain ⟨y,hy,rfl⟩:=List.mem_map.1 hx
   have q:=h.out y (List.mem_of_mem_drop hy)
   obtain ⟨g1,g2,g3,g4⟩:=hg y
   rw [hl]
   exact yy112
theorem zzu (h:SI N s) {part:Int} {L:List Int}:SI N (zif part s L):=by
 unfold zif
 split
 . exact h
 . split
   . refine h.side (zds _ _ _) fun i p hp=>?_
     rcases zqt hp with ⟨-,hp⟩ | ⟨rfl,q,hq,rfl⟩
     . exact h.flight i p hp
     . rw [<- h.flight _ q hq];rfl
   . exact h
theorem zzv (h:SI N s) {b:Bool}:SI N (zer b s):=by
 unfold zer
 split
 . exact h.side rfl h.flight
 . exact h
theorem ynd (h:SI N s):SI N (settle s):=by
 have hl:(settle s).fates.length=s.fates.length:=by show (List.mapIdx _ _).length=_;simp
 refine ⟨h.cfg,h.nums,h.next,h.cum,by rw [hl];exact h.owes,h.npaths,h.nhad,h.nmids,h.waits,fun m hm=>?_,fun x hx=>by rw [hl];exact h.out x hx,h.flight,by rw [hl];exact h.many,h.few⟩
 have hm:m ∈ s.queue:=hm
 have q:=h.queue m hm
 have q0:=q.id0
 refine ⟨q.id0,by rw [hl];exact q.id1,?_,q.st0,q.st1,q.len1,q.len2,q.parts,q.sent,q.left⟩
 show (s.fates.mapIdx fun id f=>settled s id f)[m.id.toNat]?=some 1
 rw [List.getElem?_mapIdx,q.fate]
 show some (settled s m.id.toNat 1)=some 1
 rw [settled,if_neg]
 rintro ⟨-,h2,-⟩
 rw [List.any_eq_false] at h2
 exact h2 m hm (decide_eq_true (by omega))
theorem yug (h:SI N s) (c:Chunk):SI N (hear s c):=by
 unfold hear
 split
 . exact h
 split
 . exact h
 . rename_i c1 c2
   rw [zoo]
   exact ynd (zzv (zzu (zzt h c2)))
theorem yne (i j:Nat):∀ l:List Sent,Sco.fl j (l.map (Sco.late i))=if i=j then 0 else Sco.fl j l
 | []=>by simp [Sco.fl]
 | x :: l=>by
  rw [List.map_cons,zmy,yne i j l,zmy (j:Int) x l,Sco.zqb,Sco.zqb]
  unfold Sco.late
  by_cases c:x.state=1 /\ x.path=i
  . rw [if_pos c,if_neg (by rintro ⟨h,-⟩;cases h)]
    by_cases e:i=j
    . rw [if_pos e,if_pos e]
    . rw [if_neg e,if_neg e,if_neg (by rintro ⟨-,h⟩;have:=c.2;omega)]
  . rw [if_neg c]
    by_cases e:i=j
    . subst e;rw [if_pos rfl,if_pos rfl,if_neg c]
    . rw [if_neg e,if_neg e]
theorem yrb (h:SI N s) (part:Int) (i:Nat):SI N (late1 part s i):=by
 unfold late1
 split
 . exact h
 rename_i p hp
 split
 . exact h
 have hil:=(List.getElem?_eq_some_iff.1 hp).1
 have h2:SI N { s with out:=s.out.map (Sco.late i),paths:=s.paths.set i (Paths.late p part) }:=by
  have e:∀ x,(Sco.late i x).number=x.number /\ (Sco.late i x).path=x.path /\ (Sco.late i x).id=x.id /\ (Sco.late i x).chunk=x.chunk:=fun x=>by unfold Sco.late;split <;> exact ⟨rfl,rfl,rfl,rfl⟩
  refine ⟨h.cfg,fun j y hy=>?_,?_,h.cum,h.owes,?_,h.nhad,h.nmids,h.waits,h.queue,fun y hy=>?_,fun j q hq=>?_,h.many,h.few⟩
  . have hy:(s.out.map (Sco.late i))[j]?=some y:=hy
    rw [List.getElem?_map] at hy
    cases hz:s.out[j]? with
    | none=>rw [hz] at hy;cases hy
    | some z=>rw [hz] at hy;cases hy;rw [(e z).1];exact h.nums j z hz
  . show s.next=s.cum+1+((s.out.map (Sco.late i)).length:Int)
    rw [List.length_map];exact h.next
  . show ((s.paths.set i _).length:Int)=_
    rw [List.length_set];exact h.npaths
  . have hy:y ∈ s.out.map (Sco.late i):=hy
    obtain ⟨z,hz,rfl⟩:=List.mem_map.1 hy
    have q:=h.out z hz
    obtain ⟨g1,g2,g3,g4⟩:=e z
    show XI (s.paths.set i _).length _ _
    rw [List.length_set]
    exact yy112
  . have hq:(s.paths.set i (Paths.late p part))[j]?=some q:=hq
    show q.flight=(Sco.fl j (s.out.map (Sco.late i)):Nat)
    rw [yne]
    by_cases e:i=j
    . subst e
      rw [List.getElem?_set_self hil] at hq
      cases hq
      rw [if_pos rfl];rfl
    . rw [List.getElem?_set_ne e] at hq
      rw [if_neg e];exact h.flight j q hq
 dsimp only
 split
 . exact h2.side rfl h2.flight
 . exact h2
theorem ygl (part:Int):∀ (L:List Nat) {s:Sender},SI N s -> SI N (L.foldl (late1 part) s)
 | [],_,h=>h
 | i :: L,_,h=>ygl part L (yrb h part i)
theorem zwf (h:SI N s):SI N (tick s):=ygl _ _ (h.side rfl h.flight)
end
end Snd
namespace Sch
def pick (q:List Queued):List Int -> Int
 | []=>-1
 | k :: r=>if first q k >= 0 then first q k else pick q r
theorem zqw {q:List Queued}:∀ {H:List Int} {R:List Int},(∀ h ∈ H,¬ first q h >= 0) -> pick q (H++R)=pick q R
 | [],R,_=>rfl
 | h :: H,R,hh=>by
  rw [List.cons_append,pick,if_neg (hh h (by simp))]
  exact zqw fun x hx=>hh x (by simp [hx])
theorem ztg {q:List Queued} {last n:Int} (h1:0 <= last) (h2:last < 2 ^ 41):∀ (j k:Nat),k+j < 2 ^ 41 -> after q last n k j=pick q ((List.range' k j).map fun i:Nat=>(last+1+(i:Int)).tmod n)
 | 0,k,_=>rfl
 | j+1,k,hk=>by
  rw [after,List.range'_succ,List.map_cons,pick,ztg h1 h2 j (k+1) (by omega),W_fit (z:=last+1) (by omega) (by omega),W_fit (by omega) (by omega)]
theorem zzw {q:List Queued}:∀ (j k:Nat),zem q k j=pick q ((List.range' k j).map fun i:Nat=>(i:Int))
 | 0,k=>rfl
 | j+1,k=>by rw [zem,List.range'_succ,List.map_cons,pick,zzw j (k+1)]
def am (p:Nat -> Bool) (had:List Int) (best:Int) (k:Nat):List Int -> Int
 | []=>best
 | n :: r=>if p k=true /\ (best < 0 \/ n < had[best.toNat]?.getD 0) then am p had k (k+1) r else am p had best (k+1) r
theorem zor {q:List Queued} {had:List Int}:∀ (l:List Int) (best:Int) (k:Nat),zdc q had best k l=am (fun k=>decide (first q k >= 0)) had best k l
 | [],_,_=>rfl
 | n :: r,best,k=>by
  rw [zdc,am,zor r,zor r]
  simp only [decide_eq_true_eq]
def Arg (p:Nat -> Bool) (had:List Int) (k:Nat) (b:Int):Prop :=
 (b=-1 /\ ∀ i:Nat,i < k -> p i=false) \/ ∃ m:Nat,b=m /\ m < k /\ p m=true /\ ∀ i:Nat,i < k -> p i=true -> had[m]?.getD 0 <= had[i]?.getD 0 /\ (i < m -> had[m]?.getD 0 < had[i]?.getD 0)
theorem zzx {p:Nat -> Bool} {had:List Int}:∀ (j k:Nat) (b:Int),k+j=had.length -> Arg p had k b -> Arg p had had.length (am p had b k (had.drop k))
 | 0,k,b,h,a=>by
  rw [List.drop_eq_nil_of_le (by omega),am]
  rwa [show k=had.length by omega] at a
 | j+1,k,b,h,a=>by
  have hlt:k < had.length:=by omega
  have hg:had[k]?.getD 0=had[k]:=by simp [hlt]
  rw [List.drop_eq_getElem_cons hlt,am]
  split
  . rename_i c
    refine zzx j (k+1) k (by omega) (.inr ⟨k,rfl,by omega,c.1,fun i hi hp=>?_⟩)
    rcases a with ⟨rfl,h1⟩ | ⟨m,rfl,h1,h2,h3⟩
    . have:i=k:=by
       by_cases e:i=k
       . exact e
       . have:=h1 i (by omega);rw [hp] at this;cases this
      subst this;exact ⟨Int.le_refl _,fun h=>by omega⟩
    . rcases c.2 with c2 | c2
      . omega
      rw [Int.toNat_natCast] at c2
      by_cases e:i=k
      . subst e;exact ⟨Int.le_refl _,fun h=>by omega⟩
      . have:=h3 i (by omega) hp
        rw [hg];omega
  . rename_i c
    refine zzx j (k+1) b (by omega) ?_
    rcases a with ⟨rfl,h1⟩ | ⟨m,rfl,h1,h2,h3⟩
    . refine .inl ⟨rfl,fun i hi=>?_⟩
      by_cases e:i=k
      . subst e
        cases hp:p i with
        | false=>rfl
        | true=>exact absurd ⟨hp,.inl (by decide)⟩ c
      . exact h1 i (by omega)
    . refine .inr ⟨m,rfl,by omega,h2,fun i hi hp=>?_⟩
      by_cases e:i=k
      . subst e
        have:¬ had[i] < had[m]?.getD 0:=fun h=>c ⟨hp,.inr (by rw [Int.toNat_natCast];exact h)⟩
        rw [hg];omega
      . exact h3 i (by omega) hp
theorem ynf {p:Nat -> Bool} {had:List Int} {n:Nat} {b b':Int} (h:Arg p had n b) (h':Arg p had n b'):b=b':=by
 rcases h with ⟨rfl,h1⟩ | ⟨m,rfl,h1,h2,h3⟩ <;> rcases h' with ⟨rfl,h4⟩ | ⟨m',rfl,h4,h5,h6⟩
 . rfl
 . rw [h1 m' h4] at h5;cases h5
 . rw [h4 m h1] at h2;cases h2
 . have h7:=h3 m' h4 h5
   have h8:=h6 m h1 h2
   by_cases e:m=m'
   . rw [e]
   . rcases Nat.lt_or_gt_of_ne e with e | e
     . have:=h8.2 e;omega
     . have:=h7.2 e;omega
def nextO (had:List Int) (H:List Int):Int:=am (fun k=>decide ((k:Int) ∉ H)) had (-1) 0 had
def fairO (had:List Int):Nat -> List Int -> List Int
 | 0,H=>H
 | j+1,H=>fairO had j (H++[nextO had H])
theorem zzy {had:List Int}:∀ (j:Nat) (H:List Int),∃ R,fairO had j H=H++R
 | 0,H=>⟨[],by simp [fairO]⟩
 | j+1,H=>by
  obtain ⟨R,h⟩:=zzy (had:=had) j (H++[nextO had H])
  exact ⟨nextO had H :: R,by rw [fairO,h];simp⟩
theorem zzz {had:List Int}:∀ (j:Nat) (H:List Int),(fairO had j H).length=H.length+j
 | 0,H=>rfl
 | j+1,H=>by rw [fairO,zzz j];simp;omega
theorem yng:∀ (n:Nat) (H:List Int),(∀ i:Nat,i < n -> (i:Int) ∈ H) -> n <= H.length
 | 0,_,_=>Nat.zero_le _
 | n+1,H,h=>by
  have h1:=yng n (H.erase (n:Int)) fun i hi=>(List.mem_erase_of_ne (by omega)).2 (h i (by omega))
  have h2:(n:Int) ∈ H:=h n (by omega)
  rw [List.length_erase_of_mem h2] at h1
  have:=List.length_pos_of_mem h2
  omega
theorem ynh (had H:List Int):Arg (fun k=>decide ((k:Int) ∉ H)) had had.length (nextO had H):=by
 have:=zzx (p:=fun k=>decide ((k:Int) ∉ H)) (had:=had) had.length 0 (-1) (by omega) (.inl ⟨rfl,fun i hi=>by omega⟩)
 exact this
theorem yaa {s:Sched} {q:List Queued}:∀ (j:Nat) (H:List Int),H.length+j=s.had.length -> ((List.range s.had.length).filter fun i:Nat=>decide ((i:Int) ∉ H)).length <= j -> (∀ h ∈ H,¬ first q h >= 0) ->
 pick q (fairO s.had j H)=least s q
 | 0,H,h1,h2,h3=>by
  have hall:∀ i:Nat,i < s.had.length -> (i:Int) ∈ H:=fun i hi=>by
   have h4:(List.range s.had.length).filter (fun i:Nat=>decide ((i:Int) ∉ H))=[]:=List.eq_nil_of_length_eq_zero (by omega)
   rw [List.filter_eq_nil_iff] at h4
   simpa using h4 i (by simpa using hi)
  have ha:Arg (fun k=>decide (first q k >= 0)) s.had s.had.length (-1):=.inl ⟨rfl,fun i hi=>by simpa using h3 _ (hall i hi)⟩
  have hl:=zzx (p:=fun k=>decide (first q k >= 0)) (had:=s.had) s.had.length 0 (-1) (by omega) (.inl ⟨rfl,fun i hi=>by omega⟩)
  have he:=ynf ha hl
  have h5:=zqw (R:=[]) h3
  rw [List.append_nil] at h5
  rw [fairO,h5,pick,least,zor]
  show _=if am _ s.had (-1) 0 s.had < 0 then _ else _
  rw [show am (fun k=>decide (first q k >= 0)) s.had (-1) 0 s.had=-1 from he.symm,if_pos (by decide)]
 | j+1,H,h1,h2,h3=>by
  rw [fairO]
  have hn:=ynh s.had H
  generalize nextO s.had H=b at hn ⊢
  have hn':=hn
  rcases hn' with ⟨rfl,g1⟩ | ⟨m,rfl,g1,g2,g3⟩
  . have:=yng s.had.length H fun i hi=>by simpa using g1 i hi
    omega
  by_cases c:first q m >= 0
  . have ha:Arg (fun k=>decide (first q k >= 0)) s.had s.had.length m:=.inr ⟨m,rfl,g1,by simpa using c,fun i hi hp=>g3 i hi (by
     have hp:first q i >= 0:=by simpa using hp
     have:(i:Int) ∉ H:=fun hc=>h3 _ hc hp
     simpa using this)⟩
    have hl:=zzx (p:=fun k=>decide (first q k >= 0)) (had:=s.had) s.had.length 0 (-1) (by omega) (.inl ⟨rfl,fun i hi=>by omega⟩)
    have he:=ynf ha hl
    obtain ⟨R,hR⟩:=zzy (had:=s.had) j (H++[(m:Int)])
    rw [hR,List.append_assoc,zqw h3]
    show (if first q m >= 0 then first q m else _)=_
    rw [if_pos c,least,zor]
    show _=if am _ s.had (-1) 0 s.had < 0 then _ else first q (am _ s.had (-1) 0 s.had)
    rw [show am (fun k=>decide (first q k >= 0)) s.had (-1) 0 s.had=m from he.symm,if_neg (by omega)]
  . have g2:(m:Int) ∉ H:=by simpa using g2
    refine yaa j (H++[(m:Int)]) (by simp;omega) ?_ fun h hh=>?_
    . have e:(List.range s.had.length).filter (fun i:Nat=>decide ((i:Int) ∉ H++[(m:Int)]))=((List.range s.had.length).filter fun i:Nat=>decide ((i:Int) ∉ H)).filter fun i:Nat=>decide (i ≠ m):=by
       rw [List.filter_filter]
       refine List.filter_congr fun i _=>?_
       by_cases e1:i=m <;> by_cases e2:(i:Int) ∈ H <;> simp [e1,e2] <;> omega
      rw [e]
      have:=(List.length_filter_lt_length_iff_exists (p:=fun i:Nat=>decide (i ≠ m)) (l:=(List.range s.had.length).filter fun i:Nat=>decide ((i:Int) ∉ H))).2 ⟨m,by simp [g1,g2],by simp⟩
      omega
    . rcases List.mem_append.1 hh with hh | hh
      . exact h3 h hh
      . rw [List.mem_singleton] at hh;subst hh;exact c
def mark (H:List Int) (b:Int):List Int:=if b ∈ H then H else H++[b]
def keys (O:List Int):List Int:=O.foldl mark []
theorem yni (O:List Int) (b:Int):keys (O++[b])=mark (keys O) b:=by simp [keys]
theorem yrc {H:List Int} {b x:Int}:x ∈ mark H b ↔ x ∈ H \/ x=b:=by
 unfold mark
 split
 . rename_i h
   exact ⟨.inl,fun h'=>h'.elim id fun e=>e ▸ h⟩
 . simp
theorem ygm:∀ (O:List Int) (H:List Int) (x:Int),x ∈ O.foldl mark H ↔ x ∈ H \/ x ∈ O
 | [],H,x=>by simp
 | b :: O,H,x=>by rw [List.foldl_cons,ygm O,yrc,List.mem_cons,or_assoc]
theorem mem_keys {O:List Int} {x:Int}:x ∈ keys O ↔ x ∈ O:=by rw [keys,ygm];simp
def ent (n:Int):Value × List PV:=(.int .i64 n,[pb true])
theorem ygn (b:Int):∀ H:List Int,findV (H.map ent) (.int .i64 b)=if b ∈ H then some [pb true] else none
 | []=>rfl
 | x :: H=>by
  rw [List.map_cons,ent,findV,ygn b H]
  by_cases e:b=x
  . subst e;simp [keyEq]
  . have:keyEq (.int .i64 b) (.int .i64 x)=false:=by simpa [keyEq] using e
    rw [this]
    simp [e]
theorem ynj (b:Int):∀ H:List Int,putV (H.map ent) (.int .i64 b) [pb true]=(mark H b).map ent
 | []=>rfl
 | x :: H=>by
  rw [List.map_cons,show ent x=(.int .i64 x,[pb true]) from rfl,putV,ynj b H]
  by_cases e:b=x
  . subst e;simp [keyEq,mark,ent]
  . have:keyEq (.int .i64 b) (.int .i64 x)=false:=by simpa [keyEq] using e
    rw [this]
    unfold mark
    by_cases e2:b ∈ H
    . simp [e,e2,ent]
    . simp [e,e2,ent]
theorem zjs (q:List Queued) (stream:Int) (hb:q.length < 2 ^ 62):FunOK Tryz.prog 168 [qs q,i64 stream] zad (i64 (first q stream)) zad:=by
 refine zai mixed Tryz.func168 (by decide) ?_
 conv=>whnf
 refine ⟨{ k:Nat // k <= q.length /\ zbl (fun m:Queued=>m.message.stream == stream) k (q.drop k)=first q stream },fun | ⟨k,_⟩=>hs 21 [(1,i64 stream),(7,qs q),(8,i64 q.length),(9,i64 k)] [],fun k=>q.length - k.1,⟨0,by simp [first]⟩,?_,?_⟩
 . exact (hle_Q [])
 rintro ⟨k,hk,hi⟩
 conv=>whnf
 by_cases c:k < q.length
 . rw [List.drop_eq_getElem_cons c] at hi
   simp only [zbl] at hi
   refine sT ?_
   refine zbe k rfl c ?_;conv=>whnf
   refine zaf (fun h=>?_) (fun h=>?_)
   . conv=>whnf
     rw [if_pos h] at hi
     rw [<- hi]
   . conv=>whnf
     rw [if_neg (by rw [h];decide)] at hi
     refine sF ?_
     exact ⟨⟨k+1,c,hi⟩,(hle_Q []),by dsimp only;omega⟩
 . rw [List.drop_eq_nil_of_le (by omega)] at hi
   refine sN ?_
   rw [<- hi];rfl
theorem zru (s:Sched) (hb:s.had.length < 2 ^ 62):FunOK Tryz.prog 68 [s.hv,s.hv] zad (hbool true) zad:=by
 refine zai mixed Tryz.func68 (by decide) ?_
 conv=>whnf
 repeat' (
  refine zab ?_ ?_;· simp;done
  conv=>whnf)
 repeat (refine hcut.go ?_;conv=>whnf)
 refine ⟨{ k:Nat // k <= s.had.length },fun | ⟨k,_⟩=>hs 45 [(2,.ptr 2 0),(3,.ptr 3 0),(29,i64 s.had.length),(30,i64 k)] [(2,.live (.cells 28 s.cells)),(3,.live (.cells 28 s.cells))],fun x=>s.had.length - x.1,⟨0,by omega⟩,?_,?_⟩
 . exact (hle_Q [(2,some 2),(3,some 3)])
 rintro ⟨k,hk⟩
 conv=>whnf
 by_cases c:k < s.had.length
 . refine sT ?_
   refine zbe k rfl c ?_;conv=>whnf
   refine zbe k rfl c ?_;conv=>whnf
   refine sD ?_
   refine zab (by simp) ?_;conv=>whnf
   (try (refine hcut.go ?_;conv=>whnf))
   refine sF ?_
   exact ⟨⟨k+1,c⟩,(hle_Q [(2,some 2),(3,some 3)]),by dsimp only;omega⟩
 . ((refine hif_F ?_;conv=>whnf);try (refine hcut.go ?_;conv=>whnf))
theorem yvi (s:Sched) (m:Queued) (bytes:Int) (over:Bool):(s.had.mapIdx fun k n=>if (k:Int)=m.message.stream then W (n+bytes) else n)=(had s m bytes over).had:=by
 unfold had
 dsimp only
 apply List.ext_getElem
 . split <;> simp
 . intro i h1 h2
   have hi:i < s.had.length:=by simpa using h1
   rw [List.getElem_mapIdx]
   split
   . rename_i e
     have hm:0 <= m.message.stream /\ m.message.stream < s.had.length:=by omega
     simp only [if_pos hm]
     rw [List.getElem_set]
     rw [if_pos (by omega),show m.message.stream.toNat=i by omega]
     simp [hi]
   . rename_i e
     by_cases hm:0 <= m.message.stream /\ m.message.stream < s.had.length
     . simp only [if_pos hm]
       rw [List.getElem_set,if_neg (by omega)]
     . simp only [if_neg hm]
abbrev rowI (l:List Int):HSlot:=.live (.row 3 1 (l.map fun n=>[pi n]))
theorem ynk (s:Sched) (m:Queued) (bytes:Int) (over:Bool) (hb:s.had.length < 2 ^ 40):FunOK Tryz.prog 143 [s.hv,m.hv,i64 bytes,hbool over] zad (had s m bytes over).hv zad:=by
 refine zai mixed Tryz.func143 (by decide) ?_
 have hf:=yvi s m bytes over
 generalize hT:had s m bytes over=T at hf
 have h1:T.last=m.message.stream:=by rw [<- hT];rfl
 have h2:T.hand=if over then -1 else m.id:=by rw [<- hT];rfl
 obtain ⟨a1,a2,a3⟩:=T
 dsimp only at h1 h2 hf
 subst h1
 rw [<- hf,h2]
 clear hT hf h2
 cases over
 all_goals
  conv=>whnf
  repeat (refine hcut.go ?_;conv=>whnf)
 . refine ⟨{ x:List Int × List Int // s.had=x.1++x.2 },fun | ⟨(a,b),_⟩=>hs 44 [(2,i64 bytes),(5,.ptr 5 0),(8,.ptr 8 0),(9,.ptr 9 0),(21,ints s.had),(22,i64 s.had.length),(23,i64 a.length)] [(5,.live (.cells 117 m.cells)),(8,.live (.cells 28 [i64 0,i64 0,hnil])),(9,.live (.cells 28 [i64 m.message.stream,i64 m.id,.own 900])),(900,rowI (a.mapIdx fun k n=>if (k:Int)=m.message.stream then W (n+bytes) else n))],fun x=>x.1.2.length,⟨([],s.had),rfl⟩,?_,?_⟩
   . exact (hle_Q [(5,some 5),(8,some 8),(9,some 9),(900,none)])
   exact yy12
 . refine ⟨{ x:List Int × List Int // s.had=x.1++x.2 },fun | ⟨(a,b),_⟩=>hs 44 [(2,i64 bytes),(5,.ptr 5 0),(8,.ptr 8 0),(9,.ptr 9 0),(21,ints s.had),(22,i64 s.had.length),(23,i64 a.length)] [(5,.live (.cells 117 m.cells)),(8,.live (.cells 28 [i64 0,i64 0,hnil])),(9,.live (.cells 28 [i64 m.message.stream,i64 (-1),.own 900])),(900,rowI (a.mapIdx fun k n=>if (k:Int)=m.message.stream then W (n+bytes) else n))],fun x=>x.1.2.length,⟨([],s.had),rfl⟩,?_,?_⟩
   . exact (hle_Q [(5,some 5),(8,some 8),(9,some 9),(900,none)])
   exact yy12
theorem yiz (turns:Int) (s:Sched) (q:List Queued) (h9:s.had.length < 2 ^ 36) (hb:q.length < 2 ^ 60) (hl:0 < s.had.length -> 0 <= s.last /\ s.last < s.had.length):FunOK Tryz.prog 142 [i64 turns,s.hv,qs q] zad (i64 (next turns s q)) zad:=by
 refine zai mixed Tryz.func142 (by decide) ?_
 have hb:q.length < 2 ^ 62:=by omega
 have hl1:(s.had.map fun n=>[pi n]).length=s.had.length:=by simp
 conv=>whnf
 by_cases c1:(q.length:Int)=0
 . rw [next,if_pos c1]
   refine zac (by simpa using c1) ?_;conv=>whnf
   repeat (refine hcut.go ?_;conv=>whnf)
 rw [next,if_neg c1]
 refine zab (by simpa using c1) ?_;conv=>whnf
 by_cases c2:(s.had.length:Int)=0
 . rw [if_pos c2]
   refine zac (by simpa using c2) ?_;conv=>whnf
   repeat (refine hcut.go ?_;conv=>whnf)
 rw [if_neg c2]
 obtain ⟨g1,g2⟩:=hl (by omega)
 have hafter:=ztg (q:=q) (last:=s.last) (n:=s.had.length) g1 (by omega) s.had.length 0 (by omega)
 refine zab (by simpa using c2) ?_;conv=>whnf
 repeat (refine hcut.go ?_;conv=>whnf)
 by_cases c3:turns=2
 . subst c3
   rw [if_pos rfl]
   conv=>whnf
   repeat (refine hcut.go ?_;conv=>whnf)
   refine ⟨{ k:Nat // k <= q.length /\ zbl (fun m:Queued=>m.id == s.hand) k (q.drop k)=zlg s q },fun | ⟨k,_⟩=>hs 127 [(0,i64 2),(2,qs q),(4,.ptr 4 0),(7,i64 s.had.length),(31,qs q),(32,i64 q.length),(33,i64 k)] [(4,.live (.cells 28 s.cells))],fun k=>q.length - k.1,⟨0,by simp [zlg]⟩,?_,?_⟩
   . exact (hle_Q [(4,some 4)])
   rintro ⟨k,hk,hi⟩
   refine zbh fun Q hQ=>?_
   conv=>whnf
   by_cases c:k < q.length
   . rw [List.drop_eq_getElem_cons c] at hi
     simp only [zbl] at hi
     refine sT ?_
     refine zbe k rfl c ?_;conv=>whnf
     refine zaf (fun h=>?_) (fun h=>?_)
     . conv=>whnf
       rw [if_pos h] at hi
       refine hQ _ _ ?_;conv=>whnf
       rw [if_pos (show zlg s q >= 0 by rw [<- hi];omega),<- hi]
     . conv=>whnf
       rw [if_neg (by rw [h];decide)] at hi
       (try (refine hcut.go ?_;conv=>whnf))
       refine sF ?_
       refine hQ _ _ ?_;conv=>whnf
       exact ⟨⟨k+1,c,hi⟩,(hle_Q [(4,some 4)]),by dsimp only;omega⟩
   . rw [List.drop_eq_nil_of_le (by omega)] at hi
     refine sN ?_
     refine hQ _ _ ?_;conv=>whnf
     rw [if_neg (show ¬ zlg s q >= 0 by rw [<- hi];simp [zbl])]
     exact yy6
 rw [if_neg c3]
 refine zab (by simpa using c3) ?_;conv=>whnf
 repeat (refine hcut.go ?_;conv=>whnf)
 refine zab (by simpa using c3) ?_;conv=>whnf
 repeat (refine hcut.go ?_;conv=>whnf)
 by_cases c4:turns=3
 . subst c4
   rw [if_pos rfl]
   conv=>whnf
   exact yy6
 rw [if_neg c4]
 refine zab (by simpa using c4) ?_;conv=>whnf
 repeat (refine hcut.go ?_;conv=>whnf)
 by_cases c5:turns=4
 . subst c5
   rw [if_pos rfl,zzw]
   conv=>whnf
   repeat (refine hcut.go ?_;conv=>whnf)
   refine ⟨{ k:Nat // k <= s.had.length },fun | ⟨k,_⟩=>hs 127 [(2,qs q),(10,.own 900),(65,i64 s.had.length),(66,i64 k)] [(900,rowI ((List.range' 0 k).map fun i:Nat=>(i:Int)))],fun k=>s.had.length - k.1,⟨0,by omega⟩,?_,?_⟩
   . exact (hle_Q [(900,none)])
   rintro ⟨k,hk⟩
   refine zbh fun Q hQ=>?_
   conv=>whnf
   by_cases c:k < s.had.length
   . refine sT ?_
     refine zaa (c:=((((List.range' 0 k).map fun i:Nat=>(i:Int)).map fun n=>[pi n]).length+1) * 8 <= 140737488355328) (by simp;omega) ?_;conv=>whnf
     (try (refine hcut.go ?_;conv=>whnf))
     refine sF ?_
     refine hQ _ _ ?_;conv=>whnf
     exact ⟨⟨k+1,c⟩,(hle_X [(900,some 72)] (by repeat' (first | exact z0 | refine z1 ?_ | refine ⟨?_,?_⟩ | ((exact zau (f:=fun n=>[pi n]) (x:=(k:Int)) (by rw [List.range'_concat];simp) rfl)) | exact z2))),by dsimp only;omega⟩
   . refine sN ?_
     refine hQ _ _ ?_;conv=>whnf
     have hkk:k=s.had.length:=by omega
     subst hkk
     obtain ⟨O,hO⟩:∃ O,O=((List.range' 0 s.had.length).map fun i:Nat=>(i:Int)):=⟨_,rfl⟩
     rw [<- hO]
     generalize hN:pick q O=N
     have hOl:O.length=s.had.length:=by rw [hO];simp
     refine ⟨{ x:List Int × List Int // (O)=x.1++x.2 /\ pick q x.2=N },fun | ⟨(a,b),_⟩=>hs 127 [(2,qs q),(114,.own 900),(115,i64 (O).length),(116,i64 a.length)] [(900,rowI (O))],fun x=>x.1.2.length,⟨([],O),rfl,hN⟩,?_,?_⟩
     . exact (hle_X [(900,some 900)] (by repeat' (first | exact z0 | refine z1 ?_ | refine ⟨?_,?_⟩ | ((exact zaw (by rw [hO];simp))) | ((exact zan (by rw [hO]))) | exact z2)))
     exact yy8
 rw [if_neg c5]
 refine zab (by simpa using c5) ?_;conv=>whnf
 repeat (refine hcut.go ?_;conv=>whnf)
 by_cases c6:turns=5
 . subst c6
   rw [if_pos rfl,<- yaa s.had.length [] (by simp) (by simpa using List.length_filter_le _ (List.range s.had.length)) (by simp)]
   conv=>whnf
   repeat (refine hcut.go ?_;conv=>whnf)
   obtain ⟨O,hO⟩:∃ O,O=fairO s.had s.had.length []:=⟨_,rfl⟩
   rw [<- hO]
   generalize hN:pick q O=N
   have hOl:O.length=s.had.length:=by rw [hO,zzz];simp
   refine ⟨{ x:Nat × List Int // x.1 <= s.had.length /\ x.2.length=x.1 /\ fairO s.had (s.had.length - x.1) x.2=O },fun | ⟨(j,H),_⟩=>hs 127 [(2,qs q),(4,.ptr 4 0),(7,i64 s.had.length),(10,.own 900),(13,.mp 901),(77,i64 s.had.length),(78,i64 j)] [(4,.live (.cells 28 s.cells)),(900,rowI H),(901,.live (.map 4 false ((keys H).map ent)))],fun x=>s.had.length - x.1.1,⟨(0,[]),by dsimp only;omega,rfl,by dsimp only;rw [hO];rfl⟩,?_,?_⟩
   . exact (hle_Q [(4,some 4),(900,none),(901,some 76)])
   rintro ⟨⟨j,H⟩,h1,h2,h3⟩
   dsimp only at h1 h2 h3
   refine zbh fun Q0 hQ0=>?_
   conv=>whnf
   by_cases c:j < s.had.length
   . obtain ⟨d,hd⟩:∃ d,s.had.length - j=d+1:=⟨s.had.length - j - 1,by omega⟩
     have hd2:s.had.length - (j+1)=d:=by omega
     rw [hd,fairO] at h3
     refine sT ?_
     refine ⟨{ x:Nat × Int // x.1 <= s.had.length /\ (x.2 < 0 \/ x.2 < x.1) /\ am (fun k=>decide ((k:Int) ∉ H)) s.had x.2 x.1 (s.had.drop x.1)=nextO s.had H },fun | ⟨(k,b),_⟩=>hs 127 [(2,qs q),(4,.ptr 4 0),(7,i64 s.had.length),(10,.own 900),(13,.mp 901),(77,i64 s.had.length),(78,i64 j),(14,i64 b),(80,i64 s.had.length),(81,i64 k)] [(4,.live (.cells 28 s.cells)),(900,rowI H),(901,.live (.map 4 false ((keys H).map ent)))],fun x=>s.had.length - x.1.1,⟨(0,-1),by dsimp only;omega,.inl (by dsimp only;omega),rfl⟩,?_,?_⟩
     . exact (hle_Q [(4,some 4),(900,some 900),(901,some 901)])
     rintro ⟨⟨k,b⟩,g1,g2,g3⟩
     dsimp only at g1 g2 g3
     refine zbh fun Q hQ=>?_
     conv=>whnf
     by_cases c7:k < s.had.length
     . rw [List.drop_eq_getElem_cons c7,am] at g3
       refine sT ?_
       have hf:=ygn (k:Int) (keys H)
       by_cases c8:(k:Int) ∈ H
       . rw [if_pos (mem_keys.2 c8)] at hf
         rw [if_neg (by simp [c8])] at g3
         refine ⟨_,hf.symm,?_⟩;conv=>whnf
         refine sD ?_
         (try (refine hcut.go ?_;conv=>whnf))
         refine sF ?_
         refine hQ _ _ ?_;conv=>whnf
         exact ⟨⟨(k+1,b),c7,by dsimp only;omega,g3⟩,(hle_Q [(4,some 4),(900,some 900),(901,some 901)]),by dsimp only;omega⟩
       . rw [if_neg (fun h=>c8 (mem_keys.1 h))] at hf
         refine ⟨_,hf.symm,?_⟩;conv=>whnf
         by_cases c9:b < 0
         . rw [if_pos ⟨by simp [c8],.inl c9⟩] at g3
           refine zac (by simpa using c9) ?_;conv=>whnf
           refine sD ?_
           exact yy102
         . obtain ⟨m,hbm⟩:∃ m:Nat,b=m:=⟨b.toNat,by omega⟩
           have hm:m < s.had.length:=by omega
           have hg:s.had[m]?.getD 0=s.had[m]:=by simp [hm]
           rw [show b.toNat=m by omega,hg] at g3
           refine zab (by simpa using c9) ?_;conv=>whnf
           refine zbe k rfl c7 ?_;conv=>whnf
           refine zbe m hbm hm ?_;conv=>whnf
           refine sD ?_
           by_cases c10:s.had[k] < s.had[m]
           . rw [if_pos ⟨by simp [c8],.inr c10⟩] at g3
             refine zac (by simpa using c10) ?_;conv=>whnf
             exact yy102
           . rw [if_neg (fun h=>h.2.elim c9 c10)] at g3
             refine zab (by simpa using c10) ?_;conv=>whnf
             (try (refine hcut.go ?_;conv=>whnf))
             refine sF ?_
             refine hQ _ _ ?_;conv=>whnf
             exact ⟨⟨(k+1,b),c7,.inr (by dsimp only;omega),g3⟩,(hle_Q [(4,some 4),(900,some 900),(901,some 901)]),by dsimp only;omega⟩
     . rw [List.drop_eq_nil_of_le (by omega),am] at g3
       subst g3
       refine sN ?_
       refine hQ _ _ ?_;conv=>whnf
       refine ⟨_,(ynj _ _).symm,?_⟩;conv=>whnf
       refine zaa (c:=((H.map fun n=>[pi n]).length+1) * 8 <= 140737488355328) (by simp;omega) ?_;conv=>whnf
       (try (refine hcut.go ?_;conv=>whnf))
       refine sF ?_
       refine hQ0 _ _ ?_;conv=>whnf
       exact ⟨⟨(j+1,H++[nextO s.had H]),c,by simp [h2],by dsimp only;rw [hd2];exact h3⟩,(hle_X [(4,some 4),(900,some 112),(901,some 901)] (by repeat' (first | exact z0 | refine z1 ?_ | refine ⟨?_,?_⟩ | ((exact zau (f:=fun n=>[pi n]) rfl rfl)) | ((simp [yni])) | exact z2))),by dsimp only;omega⟩
   . have hjj:j=s.had.length:=by omega
     subst hjj
     rw [Nat.sub_self,fairO] at h3
     refine sN ?_
     refine hQ0 _ _ ?_;conv=>whnf
     refine ⟨{ x:List Int × List Int // (O)=x.1++x.2 /\ pick q x.2=N },fun | ⟨(a,b),_⟩=>hs 127 [(2,qs q),(114,.own 900),(115,i64 (O).length),(116,i64 a.length)] [(900,rowI (O))],fun x=>x.1.2.length,⟨([],O),rfl,hN⟩,?_,?_⟩
     . exact (hle_X [(900,some 900)] (by repeat' (first | exact z0 | refine z1 ?_ | refine ⟨?_,?_⟩ | ((exact zaw (by rw [<- h3];simp))) | ((exact zan (by rw [h3]))) | exact z2)))
     exact yy8
 rw [if_neg c6]
 refine zab (by simpa using c6) ?_;conv=>whnf
end Sch
theorem zjz (l:List Span) (hb:l.length < 2 ^ 40):FunOK Tryz.prog 149 [Ser.spans l,Ser.spans l] zad (hbool true) zad:=by
 refine zai mixed Tryz.func149 (by decide) ?_
 conv=>whnf
 refine zab ?_ ?_
 . simp
 conv=>whnf
 refine ⟨{ k:Nat // k <= l.length },fun | ⟨k,_⟩=>hs 26 [(0,Ser.spans l),(1,Ser.spans l),(12,i64 l.length),(13,i64 k)] [],fun x=>l.length - x.1,⟨0,by omega⟩,?_,?_⟩
 . exact zbm [] rfl rfl rfl rfl ⟨⟨rfl,rfl⟩,⟨rfl,rfl⟩,⟨rfl,by simp;rfl⟩,⟨rfl,rfl⟩,trivial⟩ trivial
 rintro ⟨k,hk⟩
 conv=>whnf
 refine zaf (fun c=>?_) (fun c=>?_)
 . have hlt:k < l.length:=by simpa using c
   conv=>whnf
   refine zbe k rfl hlt ?_;conv=>whnf
   refine zbe k rfl hlt ?_;conv=>whnf
   refine zaa ?_ ?_
   . kernel_rfl
   conv=>whnf
   refine zap ?_ ?_
   . kernel_rfl
   conv=>whnf
   refine zab ?_ ?_
   . simp
   conv=>whnf
   refine sFm ?_
   exact ⟨⟨k+1,hlt⟩,zbm [] rfl rfl rfl rfl ⟨⟨rfl,rfl⟩,⟨rfl,rfl⟩,⟨rfl,rfl⟩,⟨rfl,by simp;rfl⟩,trivial⟩ trivial,by dsimp only;omega⟩
 . conv=>whnf
theorem yab (c:Chunk) (h9:c.spans.length < 2 ^ 40) (h8:c.skips.length < 2 ^ 40):FunOK Tryz.prog 119 [c.hv,c.hv] zad (hbool true) zad:=by
 refine zai mixed Tryz.func119 (by decide) ?_
 conv=>whnf
 repeat' (first | (refine zab ?_ ?_;(· simp;done);conv=>whnf) | (refine zfh rfl ?_;conv=>whnf) | (refine zar ?_;(conv=>whnf);refine ⟨_,zjz c.spans h9,rfl,?_⟩;conv=>whnf))
 refine ⟨{ k:Nat // k <= c.skips.length },fun | ⟨k,_⟩=>hs 104 [(2,.ptr 2 0),(3,.ptr 3 0),(88,i64 c.skips.length),(89,i64 k)] [(2,.live (.cells 61 c.cells)),(3,.live (.cells 61 c.cells))],fun x=>c.skips.length - x.1,⟨0,by omega⟩,?_,?_⟩
 . exact zbm [(2,some 2),(3,some 3)] rfl rfl rfl rfl ⟨⟨rfl,rfl⟩,⟨rfl,rfl⟩,⟨rfl,by simp;rfl⟩,⟨rfl,rfl⟩,trivial⟩ ⟨⟨rfl,.inl ⟨2,rfl,rfl⟩⟩,⟨rfl,.inl ⟨3,rfl,rfl⟩⟩,trivial⟩
 rintro ⟨k,hk⟩
 conv=>whnf
 refine zaf (fun c1=>?_) (fun c1=>?_)
 . have hlt:k < c.skips.length:=by simpa using c1
   conv=>whnf
   refine zbe k rfl hlt ?_;conv=>whnf
   refine zbe k rfl hlt ?_;conv=>whnf
   refine zaa ?_ ?_
   . kernel_rfl
   conv=>whnf
   refine zap ?_ ?_
   . kernel_rfl
   conv=>whnf
   refine zab ?_ ?_
   . simp
   conv=>whnf
   refine sFm ?_
   exact ⟨⟨k+1,hlt⟩,zbm [(2,some 2),(3,some 3)] rfl rfl rfl rfl ⟨⟨rfl,rfl⟩,⟨rfl,rfl⟩,⟨rfl,rfl⟩,⟨rfl,by simp;rfl⟩,trivial⟩ ⟨⟨rfl,.inl ⟨2,rfl,rfl⟩⟩,⟨rfl,.inl ⟨3,rfl,rfl⟩⟩,trivial⟩,by dsimp only;omega⟩
 . conv=>whnf
namespace Sco
open Ser
theorem zwg (l:List Sent) (hl:l.length < 2 ^ 38) (hc:∀ s ∈ l,s.chunk.spans.length < 2 ^ 38 /\ s.chunk.skips.length < 2 ^ 38):FunOK Tryz.prog 69 [sents l,sents l] zad (hbool true) zad:=by
 refine zai mixed Tryz.func69 (by decide) ?_
 conv=>whnf
 refine sN ?_
 refine ⟨{ x:List Sent × List Sent // l=x.1++x.2 },fun | ⟨(a,b),_⟩=>hs 96 [(0,sents l),(1,sents l),(14,i64 l.length),(15,i64 a.length)] [],fun x=>x.1.2.length,⟨([],l),rfl⟩,?_,?_⟩
 . exact (hle_Q [])
 rintro ⟨⟨a,b⟩,h⟩
 dsimp only at h
 cases b with
 | nil =>
  have hz:=zaz h
  conv=>whnf
  ((refine hif_F ?_;conv=>whnf);try (refine hcut.go ?_;conv=>whnf))
 | cons s b =>
  have hz:=zat h
  obtain ⟨s1,s2⟩:=hc s (zef h)
  conv=>whnf
  refine sT ?_
  refine zah h rfl ?_;conv=>whnf
  refine zah h rfl ?_;conv=>whnf
  refine sD ?_
  repeat' (first | (refine zab ?_ ?_;(· simp;done);conv=>whnf))
  (refine cL ?_;refine dL (yab s.chunk (by omega) (by omega)) ?_)
  refine sF ?_
  exact ⟨⟨(a++[s],b),zag h⟩,(hle_Q []),by simp⟩
end Sco
namespace Sco
open Ser
theorem yac (l:List Sent) (path:Int) (hl:Sized l):FunOK Tryz.prog 46 [sents l,i64 path] zad (i64 (fl path l)) zad:=by
 obtain ⟨hl1,hl2⟩:=hl
 refine zai mixed Tryz.func46 (by decide) ?_
 conv=>whnf
 refine ⟨{ x:List Sent × List Sent // l=x.1++x.2 },fun | ⟨(a,b),_⟩=>hs 31 [(1,i64 path),(5,i64 (fl path a)),(8,sents l),(9,i64 l.length),(10,i64 a.length)] [],fun x=>x.1.2.length,⟨([],l),rfl⟩,?_,?_⟩
 . exact (hle_Q [])
 rintro ⟨⟨a,b⟩,h⟩
 dsimp only at h
 cases b with
 | nil =>
  have hz:=zaz h
  conv=>whnf
  refine sN ?_
  rw [h,List.append_nil]
 | cons s b =>
  have hz:=zat h
  have hf:=fl_le path a
  rw [h,zfi,zej] at hl2
  have e1:=yfr path a [s]
  rw [zqb] at e1
  conv=>whnf
  refine sT ?_
  (try (refine hcut.go ?_;conv=>whnf))
  refine zah h rfl ?_;conv=>whnf
  refine zaf (fun c1=>?_) (fun c1=>?_)
  . conv=>whnf
    refine zaf (fun c2=>?_) (fun c2=>?_)
    . conv=>whnf
      rw [if_pos ⟨by simpa using c2,by simpa using c1⟩] at e1
      refine sF ?_
      exact yy24
    . conv=>whnf
      rw [if_neg (by rintro ⟨h1,h2⟩;simp [h1] at c2)] at e1
      exact yy24
  . conv=>whnf
    rw [if_neg (by rintro ⟨h1,h2⟩;simp [h2] at c1)] at e1
    exact yy24
theorem yja (l:List Sent) (cum:Int) (c:Chunk) (paths:Int) (hl:Sized l) (hr:Right l cum paths) (hsp:c.spans.length < 2 ^ 60) :
 FunOK Tryz.prog 84 [sents l,i64 cum,c.hv,i64 paths] zad (.tup [sents (sack l cum c paths).1,i64 (sack l cum c paths).2.1,ints (sack l cum c paths).2.2.1,ints (sack l cum c paths).2.2.2]) zad:=by
 have hl1:=hl.len
 have hp0:=hr.p0
 have hp1:=hr.p1
 have hc0:=hr.c0
 have hc1:=hr.c1
 refine zai mixed Tryz.func84 (by decide) ?_
 have hn:=zfy (a:=cum) (t:=c.tag) (by omega) (by omega)
 rw [sack]
 have hsr:=zhd cum c.tag (by omega) (by omega)
 generalize hN:near cum c.tag=n at hn hsr ⊢
 have e21:HSlot.live (.row 3 1 (List.replicate paths.toNat [pi 0]))=intB (List.replicate paths.toNat 0):=by
  rw [intB,List.map_replicate]
 conv=>whnf
 refine zaa (c:=0 <= paths /\ paths=paths /\ paths * 8 <= 140737488355328) (by omega) ?_
 conv=>whnf
 (refine cL ?_;refine dL hsr ?_)
 by_cases k1:n < cum \/ n > cum+l.length
 . rw [if_pos k1]
   by_cases k2:n < cum
   . refine sT ?_
     exact yy106
   . refine sN ?_
     refine zam (z:=cum+((l.map Sent.row).length:Int)) (W_fit (by rw [List.length_map];omega) (by rw [List.length_map];omega)) ?_;conv=>whnf
     refine sT ?_
     exact yy106
 . rw [if_neg k1]
   refine sN ?_
   refine zam (z:=cum+((l.map Sent.row).length:Int)) (W_fit (by rw [List.length_map];omega) (by rw [List.length_map];omega)) ?_;conv=>whnf
   refine sN ?_
   refine ⟨{ x:List Sent × List Sent × List Sent × List Int × Int // SI l c n paths.toNat cum x },fun | ⟨(a,b,out,come,high),_⟩=>hs 136 [(1,i64 cum),(6,.ptr 6 0),(12,.own 900),(13,i64 n),(14,.own 901),(15,i64 high),(43,sents l),(44,i64 l.length),(45,i64 a.length)] [(6,.live (.cells 61 c.cells)),(900,intB come),(901,sentB out)],fun x=>x.1.2.1.length,⟨([],l,[],List.replicate paths.toNat 0,0),rfl,rfl,rfl,rfl,Int.le_refl _,by dsimp only;simp;omega⟩,?_,?_⟩
   . exact (hle_X [(6,some 6),(900,some 24),(901,none)] (by repeat' (first | exact z0 | refine z1 ?_ | refine ⟨?_,?_⟩ | (exact e21) | exact z2)))
   rintro ⟨⟨a,b,out,come,high⟩,hi⟩
   have h:=hi.split
   dsimp only at h
   cases b with
   | nil =>
    have hz:=zaz h
    obtain ⟨h1,h2,h3,h4,h5,h6⟩:=hi
    dsimp only at h1 h2 h3 h4 h5 h6
    rw [List.append_nil] at h1
    subst h1
    rw [<- h3,<- h4,<- h2]
    have hlen:out.length <= l.length:=by rw [h2,left,List.length_map];exact List.length_filter_le _ _
    conv=>whnf
    refine sN ?_
    refine ⟨{ x:List Sent × List Sent // out=x.1++x.2 },fun | ⟨(a,b),_⟩=>hs 136 [(12,.own 900),(13,i64 n),(15,i64 high),(19,.own 902),(20,.own 903),(99,.own 901),(100,i64 out.length),(101,i64 a.length)] [(900,intB come),(901,sentB out),(902,sentB (a.map (age high))),(903,intB (lost high a))],fun x=>x.1.2.length,⟨([],out),rfl⟩,?_,?_⟩
    . exact (hle_Q [(900,some 900),(901,some 901),(902,none),(903,none)])
    rintro ⟨⟨a,b⟩,h⟩
    dsimp only at h
    cases b with
    | nil =>
     have hz:=zaz h
     rw [List.append_nil] at h
     subst h
     conv=>whnf
     ((refine hif_F ?_;conv=>whnf);try (refine hcut.go ?_;conv=>whnf))
     try rfl
    | cons s b =>
     have hz:=zat h
     have ea:(a++[s]).map (age high)=a.map (age high)++[age high s]:=by simp
     have el:lost high (a++[s])=lost high a++lost high [s]:=by simp [lost]
     have hln:(lost high a).length <= a.length:=by rw [lost,List.length_map];exact List.length_filter_le _ _
     conv=>whnf
     refine sT ?_
     refine sO ?_
     refine zah h rfl ?_;conv=>whnf
     (try (refine hcut.go ?_;conv=>whnf))
     by_cases c1:s.state=1
     . refine sT ?_
       by_cases c2:s.number < high
       . refine sT ?_
         refine sR ?_
         by_cases c3:W (s.missed+1) >= 3
         . have e1:age high s={ s with missed:=W (s.missed+1),state:=3 }:=by rw [age,if_pos ⟨c1,c2⟩,if_pos c3]
           have e2:lost high [s]=[s.number]:=by simp [lost,c1,c2,c3]
           refine sT ?_
           refine zaa (c:=(((lost high a).map fun n=>[pi n]).length+1) * 8 <= 140737488355328) (by rw [List.length_map];omega) ?_;conv=>whnf
           refine zaa (c:=(((a.map (age high)).map Sent.row).length+1) * 200 <= 140737488355328) om ?_;conv=>whnf
           refine sF ?_
           exact ⟨⟨(a++[s],b),zag h⟩,(hle_X [(900,some 900),(901,some 901),(902,some 130),(903,some 126)] (by repeat' (first | exact z0 | refine z1 ?_ | refine ⟨?_,?_⟩ | ((refine zau (f:=Sent.row) ea ?_;rw [e1];rfl)) | ((rw [el,e2];exact (zda (f:=fun n=>[pi n]) rfl).symm)) | exact z2))),by simp⟩
         . have e1:age high s={ s with missed:=W (s.missed+1) }:=by rw [age,if_pos ⟨c1,c2⟩,if_neg c3]
           have e2:lost high [s]=[]:=by simp [lost,c1,c2,c3]
           exact yy23
       . have e1:age high s=s:=by rw [age,if_neg fun h=>c2 h.2]
         have e2:lost high [s]=[]:=by simp [lost,c2]
         exact yy23
     . have e1:age high s=s:=by rw [age,if_neg fun h=>c1 h.1]
       have e2:lost high [s]=[]:=by simp [lost,c1]
       exact yy23
   | cons s b =>
    have hz:=zat h
    obtain ⟨hnum,hpa0,hpa1⟩:=hr.at h
    have hnx:=hi.next hnum hc0
    have hhi:=hi.h1
    have hh0:=hi.h0
    have hcl:=hi.come
    have hol:out.length <= a.length:=by have:=hi.out;dsimp only at this;rw [this,left,List.length_map];exact List.length_filter_le _ _
    dsimp only at hhi hh0 hcl
    have hcl:come.length=paths.toNat:=by rw [hcl,zjk]
    have hby:=hl.bytes
    rw [h,zfi,zej] at hby
    have eA:HSlot.live (.row 3 1 ((come.map fun n=>[pi n]).set s.path.toNat [pi (W (come[s.path.toNat]'(by omega)+((s.chunk.data.map bRow).length:Int)))]))=intB (addAt come s.path s.chunk.data.length):=by
     exact yy107
    conv=>whnf
    refine sT ?_
    refine zah h rfl ?_;conv=>whnf
    by_cases g:s.number <= n
    . have hk:here c n s=true:=by rw [here];simp [g]
      refine sT ?_
      by_cases q:s.state=1 \/ s.state=3
      . have hcm:comes c n s=true:=by rw [comes,hk,Bool.true_and];rcases q with q | q <;> rw [q] <;> rfl
        rw [if_neg (by omega),come1,if_pos hcm,high1,if_pos hcm,List.append_nil] at hnx
        by_cases q1:s.state=1
        . refine sT ?_
          refine sO ?_
          refine zbe s.path.toNat (by omega) (by omega) ?_;conv=>whnf
          refine sR ?_
          refine sO ?_
          refine zbe s.path.toNat (by omega) (by omega) ?_;conv=>whnf
          refine sD ?_
          exact yy53
        . refine sN ?_
          refine sT ?_
          refine sO ?_
          refine zbe s.path.toNat (by omega) (by omega) ?_;conv=>whnf
          refine sR ?_
          refine sO ?_
          refine zbe s.path.toNat (by omega) (by omega) ?_;conv=>whnf
          refine sD ?_
          exact yy53
      . have hcm:comes c n s=false:=by
         rw [comes,hk,Bool.true_and]
         simp only [not_or] at q
         simp [q.1,q.2]
        rw [if_neg (by omega),come1,if_neg (by rw [hcm];decide),high1,if_neg (by rw [hcm];decide),List.append_nil] at hnx
        have q1:s.state ≠ 1:=fun h=>q (.inl h)
        have q2:s.state ≠ 3:=fun h=>q (.inr h)
        refine sN ?_
        refine sN ?_
        exact yy53
    . refine sN ?_
      refine sR ?_
      (refine cL ?_;refine dL (ycm c.spans _ (by omega)) ?_)
      by_cases hh:has c.spans (W (s.number - n))=true
      . have hk:here c n s=true:=by rw [here,hh];simp
        refine zac hh ?_;conv=>whnf
        (try (refine hcut.go ?_;conv=>whnf))
        by_cases q:s.state=1 \/ s.state=3
        . have hcm:comes c n s=true:=by rw [comes,hk,Bool.true_and];rcases q with q | q <;> rw [q] <;> rfl
          rw [if_pos (by omega),come1,if_pos hcm,high1,if_pos hcm,turn,if_pos hcm] at hnx
          by_cases q1:s.state=1
          . refine sT ?_
            refine sO ?_
            refine zbe s.path.toNat (by omega) (by omega) ?_;conv=>whnf
            refine sR ?_
            refine sO ?_
            refine zbe s.path.toNat (by omega) (by omega) ?_;conv=>whnf
            refine sD ?_
            exact yy42
          . refine sN ?_
            refine sT ?_
            refine sO ?_
            refine zbe s.path.toNat (by omega) (by omega) ?_;conv=>whnf
            refine sR ?_
            refine sO ?_
            refine zbe s.path.toNat (by omega) (by omega) ?_;conv=>whnf
            refine sD ?_
            exact yy42
        . have hcm:comes c n s=false:=by
           rw [comes,hk,Bool.true_and]
           simp only [not_or] at q
           simp [q.1,q.2]
          rw [if_pos (by omega),come1,if_neg (by rw [hcm];decide),high1,if_neg (by rw [hcm];decide),turn,if_neg (by rw [hcm];decide)] at hnx
          have q1:s.state ≠ 1:=fun h=>q (.inl h)
          have q2:s.state ≠ 3:=fun h=>q (.inr h)
          refine sN ?_
          refine sN ?_
          exact yy42
      . have hk:here c n s=false:=by rw [here];simp [hh];omega
        have hcm:comes c n s=false:=by rw [comes,hk];rfl
        rw [if_pos (by omega),come1,if_neg (by rw [hcm];decide),high1,if_neg (by rw [hcm];decide),turn,if_neg (by rw [hcm];decide)] at hnx
        refine zab (by simpa using hh) ?_;conv=>whnf
        (try (refine hcut.go ?_;conv=>whnf))
        refine sT ?_
        refine zaa (c:=((out.map Sent.row).length+1) * 200 <= 140737488355328) om ?_;conv=>whnf
        refine sF ?_
        exact ⟨⟨_,hnx⟩,(hle_X [(6,some 6),(900,some 900),(901,some 97)] (by repeat' (first | exact z0 | refine z1 ?_ | refine ⟨?_,?_⟩ | (exact (zda (f:=Sent.row) rfl).symm) | exact z2))),by simp⟩
end Sco
namespace Sco
open Ser
def zdo (c:Chunk) (k at':Nat):List Skip -> Nat
 | []=>at'
 | s :: r=>zdo c (k+1) (if zcc c s then k else at') r
def zth (a b:Skip):Prop:=a.stream=b.stream /\ a.ordered=b.ordered /\ (a.ordered=true \/ a.mid=b.mid)
def U (l:List Skip):Prop:=l.Pairwise fun a b=>¬ zth a b
theorem zeo {c:Chunk} {s:Skip}:zcc c s=true ↔ s.stream=c.stream /\ s.ordered=c.ordered /\ (c.ordered=true \/ s.mid=c.mid):=by
 simp only [zcc,Bool.and_eq_true,beq_iff_eq,Bool.or_eq_true,and_assoc]
theorem yuh {c:Chunk} {s t:Skip} (h:zcc c s=true) (k:zcc c t=true):zth s t:=by
 obtain ⟨h1,h2,h3⟩:=zeo.1 h
 obtain ⟨k1,k2,k3⟩:=zeo.1 k
 refine ⟨h1.trans k1.symm,h2.trans k2.symm,?_⟩
 rcases h3 with h3 | h3
 . exact .inl (h2.trans h3)
 . rcases k3 with k3 | k3
   . exact .inl (h2.trans k3)
   . exact .inr (h3.trans k3.symm)
theorem zlu {c:Chunk}:∀ {l:List Skip} {k a:Nat},(∀ s ∈ l,zcc c s=false) -> zdo c k a l=a
 | [],_,_,_=>rfl
 | s :: r,k,a,h=>by
  rw [zdo,if_neg (by rw [h s (by simp)];decide)];exact zlu fun x hx=>h x (by simp [hx])
theorem ygo {c:Chunk}:∀ {a b:List Skip} {k z:Nat},zdo c k z (a++b)=zdo c (k+a.length) (zdo c k z a) b
 | [],b,k,z=>rfl
 | s :: r,b,k,z=>by
  rw [List.cons_append,zdo,ygo,zdo];congr 1;simp;omega
theorem ynl {c:Chunk} {l:List Skip} (hu:U l):(zdo c 0 l.length l=l.length /\ skip c l=l++[⟨c.stream,c.mid,c.ordered⟩] /\ U (skip c l)) \/
 ∃ a s b,l=a++s :: b /\ zdo c 0 l.length l=a.length /\ skip c l=a++⟨c.stream,c.mid,c.ordered⟩ :: b /\ U (skip c l):=by
 by_cases hn:∀ s ∈ l,zcc c s=false
 . left
   have h1:=zir hn []
   rw [List.append_nil] at h1
   have h2:skip c l=l++[⟨c.stream,c.mid,c.ordered⟩]:=h1
   refine ⟨zlu hn,h2,?_⟩
   rw [h2]
   refine List.pairwise_append.2 ⟨hu,List.pairwise_singleton _ _,fun x hx y hy=>?_⟩
   rw [List.mem_singleton.1 hy]
   rintro ⟨e1,e2,e3⟩
   have:=hn x hx
   have h4:zcc c x=true:=zeo.2 ⟨e1,e2,by rcases e3 with e3 | e3;exact .inl (e2.symm.trans e3);exact .inr e3⟩
   rw [h4] at this;cases this
 . right
   obtain ⟨s0,hs0,hm0⟩:∃ s ∈ l,zcc c s=true:=by
    apply Classical.byContradiction
    intro hc
    exact hn fun s hs=>by
     cases hm:zcc c s with
     | false=>rfl
     | true=>exact absurd ⟨s,hs,hm⟩ hc
   have gen:∀ l:List Skip,(∃ s ∈ l,zcc c s=true) -> ∃ a s b,l=a++s :: b /\ zcc c s=true /\ ∀ x ∈ a,zcc c x=false:=by
    intro l
    induction l with
    | nil=>rintro ⟨s,hs,_⟩;simp at hs
    | cons x r ih =>
     rintro ⟨s,hs,hm⟩
     cases hx:zcc c x with
     | true=>exact ⟨[],x,r,rfl,hx,by simp⟩
     | false =>
      have:∃ s ∈ r,zcc c s=true:=by
       rcases List.mem_cons.1 hs with rfl | hs
       . rw [hx] at hm;cases hm
       . exact ⟨s,hs,hm⟩
      obtain ⟨a,t,b,h1,h2,h3⟩:=ih this
      refine ⟨x :: a,t,b,by rw [h1];rfl,h2,fun y hy=>?_⟩
      rcases List.mem_cons.1 hy with rfl | hy
      . exact hx
      . exact h3 y hy
   obtain ⟨a,s,b,rfl,hm,ha⟩:=gen l ⟨s0,hs0,hm0⟩
   obtain ⟨u1,u2,u3⟩:=List.pairwise_append.1 hu
   obtain ⟨u4,u5⟩:=List.pairwise_cons.1 u2
   have hb:∀ x ∈ b,zcc c x=false:=by
    intro x hx
    cases hxm:zcc c x with
    | false=>rfl
    | true=>exact absurd (yuh hm hxm) (u4 x hx)
   obtain ⟨m1,m2,m3⟩:=zeo.1 hm
   have h2:skip c (a++s :: b)=a++⟨c.stream,c.mid,c.ordered⟩ :: b:=by
    rw [zir ha,skip,if_pos hm,m1,m2]
   have tr:∀ x:Skip,zth ⟨c.stream,c.mid,c.ordered⟩ x -> zth s x:=by
    rintro x ⟨e1,e2,e3⟩
    refine ⟨m1.trans e1,m2.trans e2,?_⟩
    rcases e3 with e3 | e3
    . exact .inl (m2.trans e3)
    . rcases m3 with m3 | m3
      . exact .inl (m2.trans m3)
      . exact .inr (m3.trans e3)
   have sy:∀ x y:Skip,zth x y -> zth y x:=fun x y ⟨e1,e2,e3⟩=>⟨e1.symm,e2.symm,by rcases e3 with e3 | e3;exact .inl (e2.symm.trans e3);exact .inr e3.symm⟩
   refine ⟨a,s,b,rfl,?_,h2,?_⟩
   . rw [ygo,zlu ha,zdo,if_pos hm,zlu hb];omega
   . rw [h2]
     refine List.pairwise_append.2 ⟨u1,List.pairwise_cons.2 ⟨fun x hx h=>u4 x hx (tr x h),u5⟩,fun x hx y hy=>?_⟩
     rcases List.mem_cons.1 hy with rfl | hy
     . intro h;exact u3 x hx s (by simp) (sy _ _ (tr _ (sy _ _ h)))
     . exact u3 x hx y (by simp [hy])
theorem zhw (l:List Sent) (cum:Int) (hl:l.length < 2 ^ 38):FunOK Tryz.prog 89 [sents l,i64 cum] zad (.tup [i64 (point l cum).1,skips (point l cum).2]) zad:=by
 refine zai mixed Tryz.func89 (by decide) ?_
 generalize hR:point l cum=R
 conv=>whnf
 refine ⟨{ x:List Sent × List Sent × Int × List Skip // l=x.1++x.2.1 /\ x.2.2.2.length <= 8 /\ zdg x.2.2.1 x.2.2.2 x.2.1=R /\ U x.2.2.2 },fun | ⟨(a,b,z,sk),_⟩=>hs 107 [(1,i64 z),(6,.own 900),(14,sents l),(15,i64 l.length),(16,i64 a.length)] [(900,skipB sk)],fun x=>x.1.2.1.length,⟨([],l,cum,[]),rfl,by simp,hR,List.Pairwise.nil⟩,?_,?_⟩
 . exact (hle_Q [(900,none)])
 rintro ⟨⟨a,b,z,sk⟩,h,hsk,hi,hu⟩
 dsimp only at h hsk hi hu
 cases b with
 | nil =>
  have hz:=zaz h
  simp only [zdg] at hi
  subst hi
  conv=>whnf
  ((refine hif_F ?_;conv=>whnf);try (refine hcut.go ?_;conv=>whnf))
  try rfl
 | cons s b =>
  have hz:=zat h
  simp only [zdg] at hi
  have fs:=ynl (c:=s.chunk) hu
  have sl:=zvh s.chunk sk
  conv=>whnf
  refine sT ?_
  refine zah h rfl ?_;conv=>whnf
  by_cases c2:s.state=4
  . refine sN ?_
    refine sR ?_
    by_cases c1:s.number=W (z+1)
    . rw [if_neg (by rintro (h1 | h1);exact h1 c1;exact h1.1 c2),if_pos c2] at hi
      refine sN ?_
      refine sT ?_
      generalize hA:zdo s.chunk 0 sk.length sk=A at fs
      refine ⟨{ x:List Skip × List Skip × Nat // sk=x.1++x.2.1 /\ zdo s.chunk x.1.length x.2.2 x.2.1=A },fun | ⟨(c,d,t),_⟩=>hs 107 [(1,i64 z),(6,.own 900),(9,.ptr 9 0),(10,i64 t),(14,sents l),(15,i64 l.length),(16,i64 a.length),(44,.own 900),(45,i64 sk.length),(46,i64 c.length)] [(9,.live (.cells 61 s.chunk.cells)),(900,skipB sk)],fun x=>x.1.2.1.length,⟨([],sk,sk.length),rfl,hA⟩,?_,?_⟩
      . exact (hle_Q [(9,some 9),(900,some 900)])
      rintro ⟨⟨c,d,t⟩,hcd,hlast⟩
      dsimp only at hcd hlast
      cases d with
      | nil =>
       have hz2:=zaz hcd
       simp only [zdo] at hlast
       subst hlast
       conv=>whnf
       refine sN ?_
       rcases fs with ⟨f1,f2,f3⟩ | ⟨p,y,q,f0,f1,f2,f3⟩
       . have f4:(skip s.chunk sk).length=sk.length+1:=by rw [f2];simp
         by_cases c8:sk.length=8
         . rw [if_pos (by omega)] at hi
           exact yy90
         . rw [if_neg (by omega)] at hi
           refine sN ?_
           refine zaa (c:=(([]:List (List PV)).length+(sk.map Skip.row).length) * 24 <= 140737488355328) om ?_;conv=>whnf
           (try (refine hcut.go ?_;conv=>whnf))
           refine sT ?_
           refine zaa (c:=((([]:List (List PV))++sk.map Skip.row).length+1) * 24 <= 140737488355328) (by simp;omega) ?_;conv=>whnf
           refine sO ?_
           refine zbi (r:=[pi 0,pi 0,pb false]) ?_ ?_ ?_
           . omega
           . rw [f1]
             show ([]++sk.map Skip.row++[[pi 0,pi 0,pb false]])[_]?=_
             rw [List.nil_append,List.getElem?_append_right (by simp)];simp
           conv=>whnf
           have e1:HSlot.live (.row 180 3 ((sk.map Skip.row++[[pi 0,pi 0,pb false]]).set t [pi s.chunk.stream,pi s.chunk.mid,pb s.chunk.ordered]))=skipB (skip s.chunk sk):=by
            rw [f2,f1]
            have:=(zcw (t:=180) (n:=3) (f:=Skip.row) (a:=sk) (b:=[]) (x:=⟨0,0,false⟩) (y:=⟨s.chunk.stream,s.chunk.mid,s.chunk.ordered⟩) (k:=sk.length) (r:=[pi s.chunk.stream,pi s.chunk.mid,pb s.chunk.ordered]) rfl rfl).symm
            rw [List.map_append] at this
            exact this
           refine sR ?_
           refine sF ?_
           exact ⟨⟨(a++[s],b,W (z+1),skip s.chunk sk),zag h,by dsimp only;omega,by rw [<- c1];exact hi,f3⟩,(hle_X [(900,some 90)] (by repeat' (first | exact z0 | refine z1 ?_ | refine ⟨?_,?_⟩ | (exact e1) | exact z2))),by simp⟩
       . have f4:(skip s.chunk sk).length=sk.length:=by rw [f2,f0];simp
         have f5:sk.length=p.length+q.length+1:=by rw [f0];simp;omega
         rw [if_neg (by omega)] at hi
         refine sN ?_
         refine zaa (c:=(([]:List (List PV)).length+(sk.map Skip.row).length) * 24 <= 140737488355328) om ?_;conv=>whnf
         (try (refine hcut.go ?_;conv=>whnf))
         refine sN ?_
         refine sO ?_
         refine zah (f:=Skip.row) (l:=sk) (a:=p) (b:=q) (s:=y) f0 (by rw [f1];simp) ?_;conv=>whnf
         have e1:HSlot.live (.row 180 3 ((sk.map Skip.row).set t [pi s.chunk.stream,pi s.chunk.mid,pb s.chunk.ordered]))=skipB (skip s.chunk sk):=by
          rw [f2,f0,f1]
          exact (zcw (f:=Skip.row) (a:=p) (b:=q) (x:=y) (y:=⟨s.chunk.stream,s.chunk.mid,s.chunk.ordered⟩) rfl rfl).symm
         refine sR ?_
         refine sF ?_
         exact ⟨⟨(a++[s],b,W (z+1),skip s.chunk sk),zag h,by dsimp only;omega,by rw [<- c1];exact hi,f3⟩,(hle_X [(900,some 82)] (by repeat' (first | exact z0 | refine z1 ?_ | refine ⟨?_,?_⟩ | (exact e1) | exact z2))),by simp⟩
      | cons x d =>
       have hz2:=zat hcd
       simp only [zdo] at hlast
       conv=>whnf
       refine sT ?_
       refine sO ?_
       refine zah hcd rfl ?_;conv=>whnf
       refine zaf (fun k1=>?_) (fun k1=>?_)
       . conv=>whnf
         refine zaf (fun k2=>?_) (fun k2=>?_)
         . conv=>whnf
           have e2:x.ordered=s.chunk.ordered:=by simpa using k2
           refine zaf (fun k3=>?_) (fun k3=>?_)
           . have hm:zcc s.chunk x=true:=zeo.2 ⟨by simpa using k1,e2,.inl (by rw [<- e2];exact k3)⟩
             exact yy120
           . conv=>whnf
             refine zaf (fun k4=>?_) (fun k4=>?_)
             . have hm:zcc s.chunk x=true:=zeo.2 ⟨by simpa using k1,e2,.inr (by simpa using k4)⟩
               exact yy120
             . have hm:¬ zcc s.chunk x=true:=by
                intro h;obtain ⟨_,_,h3⟩:=zeo.1 h
                rcases h3 with h3 | h3
                . rw [e2,h3] at k3;cases k3
                . simp [h3] at k4
               exact yy80
         . have hm:¬ zcc s.chunk x=true:=by
            intro h;obtain ⟨_,h3,_⟩:=zeo.1 h;simp [h3] at k2
           exact yy80
       . have hm:¬ zcc s.chunk x=true:=by
          intro h;obtain ⟨h3,_,_⟩:=zeo.1 h;simp [h3] at k1
         exact yy80
    . rw [if_pos (.inl c1)] at hi
      exact yy90
  . refine sT ?_
    by_cases c3:s.state=2
    . refine sN ?_
      refine sR ?_
      by_cases c1:s.number=W (z+1)
      . rw [if_neg (by rintro (h1 | h1);exact h1 c1;exact h1.2 c3),if_neg c2] at hi
        refine sN ?_
        refine sN ?_
        refine sR ?_
        refine sF ?_
        exact ⟨⟨(a++[s],b,W (z+1),sk),zag h,hsk,by rw [<- c1];exact hi,hu⟩,(hle_Q [(900,some 900)]),by simp⟩
      . rw [if_pos (.inl c1)] at hi
        exact yy90
    . rw [if_pos (.inr ⟨c2,c3⟩)] at hi
      exact yy90
end Sco
namespace Snd
open Ser
abbrev scS (s:Sender):HSlot:=.live (.cells 32 (sndC s (Sch.qs s.queue) (ints s.sched.had) (Sco.sents s.out) (pths s.paths) (ints s.mids) (ints s.fates)))
abbrev sc0:HSlot:=.live (.cells 32 zeroS)
theorem zka (s:Sender) (ho:Sco.Sized s.out) (hp:s.paths.length < 2 ^ 22) :
 FunOK Tryz.prog 86 [s.hv] zad (.agg (sndC (flights s) (Sch.qs (flights s).queue) (ints (flights s).sched.had) (Sco.sents (flights s).out) (.own 0) (ints (flights s).mids) (ints (flights s).fates))) (lk .free [(0,rowW (flights s).paths)]):=by
 show FunOK Tryz.prog 86 [s.hv] zad (.agg (sndC s (Sch.qs s.queue) (ints s.sched.had) (Sco.sents s.out) (.own 0) (ints s.mids) (ints s.fates))) (lk .free [(0,rowW (flights s).paths)])
 have hF:(flights s).paths=s.paths.mapIdx fun i p=>flP s.out i p:=rfl
 generalize (flights s).paths=F at hF ⊢
 refine zal mixed Tryz.func86 (by decide) [] (fun _=>.inl rfl) ?_
 conv=>whnf
 refine ⟨{ x:List Path × List Path // s.paths=x.1++x.2 },fun | ⟨(A,B),_⟩=>hs 27 [(1,.ptr 1 0),(2,.ptr 2 0),(3,.own 900),(7,pths s.paths),(8,i64 s.paths.length),(9,i64 A.length)] [(1,scS s),(2,sc0),(900,rowW (A.mapIdx fun i p=>flP s.out i p))],fun x=>x.1.2.length,⟨([],s.paths),rfl⟩,?_,?_⟩
 . exact (hle_Q [(1,some 1),(2,some 2),(900,none)])
 rintro ⟨⟨A,B⟩,h⟩
 dsimp only at h
 conv=>whnf
 cases B with
 | cons p B =>
  have hz:=zat h
  refine sT ?_
  refine zah h rfl ?_;conv=>whnf
  (refine cL ?_;refine dL (Sco.yac s.out A.length ho) ?_)
  refine zaa (c:=(((A.mapIdx fun i p=>flP s.out i p).map Path.row).length+1) * 56 <= 140737488355328) (by simp;omega) ?_;conv=>whnf
  refine sF ?_
  refine ⟨⟨(A++[p],B),zag h⟩,(hle_X [(1,some 1),(2,some 2),(900,some 22)] (by repeat' (first | exact z0 | refine z1 ?_ | refine ⟨?_,?_⟩ | ((exact zau (f:=Path.row) List.mapIdx_concat rfl)) | exact z2))),by simp⟩
 | nil =>
  have hz:=zaz h
  rw [List.append_nil] at h
  refine sN ?_
  refine zak [(0,some 900)] rfl rfl trivial rfl rfl ⟨⟨rfl,.inl ⟨900,rfl,?_⟩⟩,trivial⟩
  exact zan (by rw [hF,h])
theorem zwh (s:Sender) (ho:Sco.Sized s.out) (hp:s.paths.length < 2 ^ 22):FunOK Tryz.prog 86 [s.hv] zad (flights s).hv zad:=by
 refine zbt Tryz.func86 (zka s ho hp) ?_
 conv=>whnf
 rfl
theorem zkp {N:Nat} {p:Pump} {i path:Nat} {x:Sent} {w:Path} (hS:SI N (fly p i path).s) (hx:p.s.out[i]?=some x) (hw:p.s.paths[path]?=some w) :
 flights { p.s with out:=p.s.out.set i (flyX x path) }=(fly p i path).s:=by
 have hF:=hS.flight
 have e:(fly p i path).s={ p.s with out:=p.s.out.set i (flyX x path),paths:=p.s.paths.set path { w with flight:=W (w.flight+x.chunk.data.length) } }:=by
  simp only [fly,hx,setAt,hw]
 rw [e] at hF ⊢
 dsimp only at hF
 have hl:=(List.getElem?_eq_some_iff.1 hw).1
 unfold flights
 dsimp only
 congr 1
 apply List.ext_getElem?
 intro j
 rw [List.getElem?_mapIdx]
 by_cases hj:j=path
 . subst hj
   have h2:=hF j { w with flight:=W (w.flight+x.chunk.data.length) } (List.getElem?_set_self hl)
   rw [List.getElem?_set_self hl,hw]
   dsimp only at h2
   show some (flP _ j w)=_
   unfold flP
   rw [h2]
 . rw [List.getElem?_set_ne (Ne.symm hj)]
   cases hp:p.s.paths[j]? with
   | none=>rfl
   | some a =>
    have h2:=hF j a (by rw [List.getElem?_set_ne (Ne.symm hj)];exact hp)
    show some (flP _ j a)=_
    unfold flP
    rw [<- h2]
theorem zfz (s:Sender) (ho:Sco.Sized s.out) (hp:s.paths.length < 2 ^ 22) {rows:List (List PV)} (hr:rows=s.out.map Sent.row) :
 FunOK Tryz.prog 86 [.agg (sndC s (Sch.qs s.queue) (ints s.sched.had) (.p (.sl 20 rows)) (pths s.paths) (ints s.mids) (ints s.fates))] zad (flights s).hv zad:=by
 subst hr;exact zwh s ho hp
end Snd
namespace Snd
open Ser
theorem yad {id:Int} {s:Sender} {m:Queued} (h:¬ (m.id=id /\ m.parts > 0)):end1 id s m=s:=if_neg h
theorem yui {id:Int} {s:Sender} {m:Queued} (h:m.id=id /\ m.parts > 0):end1 id s m={ s with out:=s.out++[endOf s.next m],next:=W (s.next+1) }:=if_pos h
abbrev rgC (s u:Sender) (_:Nat) (q o:HV):HSlot:=.live (.cells 32 (sndC { s with next:=u.next } q (ints s.sched.had) o (pths s.paths) (ints s.mids) (.own 901)))
theorem zti {N:Nat} (s:Sender) (id:Nat) (hS:SI N s) (hid:id < s.fates.length):FunOK Tryz.prog 99 [s.hv,i64 id] zad (giveS s id).hv zad:=by
 have hg:=(yde hS hid).fit
 obtain ⟨h1,h2,h3,h4,h5,h6,h7⟩:=hS.fit
 have ho1:=h3.len
 have hgo:=zop s id
 have hk:=zjo id s.queue { s with fates:=s.fates.set id 3 }
 have hso:=(zvn id s.queue { s with fates:=s.fates.set id 3 }).1
 generalize hU:s.queue.foldl (end1 id) { s with fates:=s.fates.set id 3 }=U at hk hso
 have hG:(flights { U with queue:=s.queue.filter fun m=>decide (m.id ≠ (id:Int)),sched:=if s.sched.hand=id then { s.sched with hand:=-1 } else s.sched,out:=U.out.map (Sco.give id),forward:=true })=giveS s id:=by rw [<- hU];rfl
 rw [hU] at hgo
 generalize giveS s id=G at hG hg hgo ⊢
 obtain ⟨f0,hf0⟩:∃ f0,s.fates[id]?=some f0:=⟨_,List.getElem?_eq_getElem hid⟩
 refine zai mixed Tryz.func99 (by decide) ?_
 conv=>whnf
 refine zaa (c:=(([]:List (List PV)).length+(s.fates.map fun n=>[pi n]).length) * 8 <= 140737488355328) (by simp;omega) ?_;conv=>whnf
 refine sOm ?_
 refine zaj (l:=s.fates) hf0 rfl ?_;conv=>whnf
 refine zaa (c:=(([]:List (List PV)).length+(s.out.map Sent.row).length) * 200 <= 140737488355328) (by simp;omega) ?_;conv=>whnf
 refine ⟨{ x:(List Queued × List Queued) × Sender // s.queue=x.1.1++x.1.2 /\ x.1.1.foldl (end1 id) { s with fates:=s.fates.set id 3 }=x.2 /\ x.2.out.length <= s.out.length+x.1.1.length },
  fun | ⟨((A,B),u),_⟩=>hs 108 [(1,i64 id),(2,.ptr 2 0),(4,.ptr 4 0),(6,.own 900),(7,.own 902),(25,Sch.qs s.queue),(26,i64 s.queue.length),(27,i64 A.length)] [(2,rgC s u id (Sch.qs s.queue) (Sco.sents s.out)),(4,sc0),(900,rowQ (A.filter fun m=>decide (m.id ≠ (id:Int)))),(901,rowT (s.fates.set id 3)),(902,rowX u.out)],fun x=>x.1.1.2.length,⟨(([],s.queue),{ s with fates:=s.fates.set id 3 }),rfl,rfl,by simp⟩,?_,?_⟩
 . exact (hle_X [(2,some 2),(4,some 4),(900,none),(901,some 14),(902,some 23)] (by repeat' (first | exact z0 | refine z1 ?_ | refine ⟨?_,?_⟩ | ((exact zan (by simp [List.map_set]))) | exact z2)))
 rintro ⟨⟨⟨A,B⟩,u⟩,h,hu,hl⟩
 dsimp only at h hu hl
 have hql:s.queue.length=A.length+B.length:=by rw [h];simp
 conv=>whnf
 cases B with
 | cons m B =>
  have hz:=zat h
  have hun:(A++[m]).foldl (end1 id) { s with fates:=s.fates.set id 3 }=end1 id u m:=by rw [List.foldl_append,hu];rfl
  have hAl:(A++[m]).length=A.length+1:=by simp
  refine sT ?_
  refine zah h rfl ?_;conv=>whnf
  by_cases c1:m.id=(id:Int)
  case neg =>
   have hsk:end1 id u m=u:=yad fun h=>c1 h.1
   have hfl:(A++[m]).filter (fun m=>decide (m.id ≠ (id:Int)))=A.filter (fun m=>decide (m.id ≠ (id:Int)))++[m]:=by rw [List.filter_append];simp [c1]
   rw [hsk] at hun
   refine zac (by simpa using c1) ?_;conv=>whnf
   have hfa:(A.filter fun m=>decide (m.id ≠ (id:Int))).length <= A.length:=List.length_filter_le _ _
   refine zaa (c:=(((A.filter fun m=>decide (m.id ≠ (id:Int))).map Queued.row).length+1) * 96 <= 140737488355328) (by rw [List.length_map];omega) ?_;conv=>whnf
   refine sF ?_
   exact ⟨⟨((A++[m],B),u),zag h,hun,by dsimp only;omega⟩,(hle_X [(2,some 2),(4,some 4),(900,some 38),(901,some 901),(902,some 902)] (by repeat' (first | exact z0 | refine z1 ?_ | refine ⟨?_,?_⟩ | ((exact zau (f:=Queued.row) hfl rfl)) | exact z2))),by simp⟩
  have hfl:(A++[m]).filter (fun m=>decide (m.id ≠ (id:Int)))=A.filter (fun m=>decide (m.id ≠ (id:Int))):=by rw [List.filter_append];simp [c1]
  refine zab (by simpa using c1) ?_;conv=>whnf
  by_cases c2:m.parts > 0
  case neg =>
   have hsk:end1 id u m=u:=yad fun h=>c2 h.2
   rw [hsk] at hun
   refine zab (by simpa using c2) ?_;conv=>whnf
   (try (refine hcut.go ?_;conv=>whnf))
   refine sF ?_
   exact ⟨⟨((A++[m],B),u),zag h,hun,by dsimp only;omega⟩,(hle_X ((2,some 2) :: ((4,some 4) :: (pJ3 []))) (by repeat' (first | exact z0 | refine z1 ?_ | refine ⟨?_,?_⟩ | ((rw [hfl])) | exact z2))),by simp⟩
  have hgo1:=yui (s:=u) ⟨c1,c2⟩
  rw [hgo1] at hun
  refine zac (by simpa using c2) ?_;conv=>whnf
  (refine cL ?_;refine dL (zbv _) ?_)
  (refine cL ?_;refine dL (zbv _) ?_)
  refine zaa (c:=((u.out.map Sent.row).length+1) * 200 <= 140737488355328) (by rw [List.length_map];omega) ?_;conv=>whnf
  refine sD ?_
  refine sR ?_
  refine sF ?_
  exact ⟨⟨((A++[m],B),{ u with out:=u.out++[endOf u.next m],next:=W (u.next+1) }),zag h,hun,by simp;omega⟩,(hle_X [(2,some 2),(4,some 4),(900,some 900),(901,some 901),(902,some 63)] (by repeat' (first | exact z0 | refine z1 ?_ | refine ⟨?_,?_⟩ | ((rw [hfl])) | ((exact zau (f:=Sent.row) rfl (by rw [<- c1];rfl))) | exact z2))),by simp⟩
 | nil =>
 have hz:=zaz h
 rw [List.append_nil] at h
 subst h
 rw [hU] at hu
 subst hu
 refine sN ?_
 refine ⟨{ x:List Sent × List Sent // U.out=x.1++x.2 },
  fun | ⟨(a,b),_⟩=>hs 108 [(1,i64 id),(2,.ptr 2 0),(4,.ptr 4 0),(6,.own 900),(7,.own 902),(70,i64 U.out.length),(71,i64 a.length)] [(2,rgC s U id (Sch.qs s.queue) (Sco.sents s.out)),(4,sc0),(900,rowQ (s.queue.filter fun m=>decide (m.id ≠ (id:Int)))),(901,rowT (s.fates.set id 3)),(902,rowX (a.map (Sco.give id)++b))],fun x=>x.1.2.length,⟨([],U.out),rfl⟩,?_,?_⟩
 . exact (hle_Q ((2,some 2) :: ((4,some 4) :: (pJ3 []))))
 rintro ⟨⟨a,b⟩,h'⟩
 dsimp only at h'
 conv=>whnf
 cases b with
 | cons y b =>
  have hz':=zat h'
  have hm:a.length=(a.map (Sco.give id)).length:=by simp
  have e0:(a++[y]).map (Sco.give id)++b=a.map (Sco.give id)++Sco.give id y :: b:=by simp
  refine sT ?_
  refine sO ?_
  refine zah (a:=a.map (Sco.give id)) (b:=b) (s:=y) rfl (by simp) ?_;conv=>whnf
  by_cases d1:y.id=(id:Int)
  case neg =>
   have e1:Sco.give id y=y:=if_neg fun h=>d1 h.1
   rw [show (y.id == (id:Int))=false from beq_eq_false_iff_ne.2 d1]
   conv=>whnf
   exact yy94
  rw [show (y.id == (id:Int))=true from beq_iff_eq.2 d1]
  conv=>whnf
  refine sO ?_
  refine zah (a:=a.map (Sco.give id)) (b:=b) (s:=y) rfl (by simp) ?_;conv=>whnf
  by_cases d2:y.state=2
  case pos =>
   have e1:Sco.give id y=y:=if_neg fun h=>h.2 d2
   refine zab (by simpa using d2) ?_;conv=>whnf
   exact yy94
  have e1:Sco.give id y={ y with state:=4 }:=if_pos ⟨d1,d2⟩
  refine zac (by simpa using d2) ?_;conv=>whnf
  refine sO ?_
  refine zah (a:=a.map (Sco.give id)) (b:=b) (s:=y) rfl (by simp) ?_;conv=>whnf
  refine sF ?_
  exact ⟨⟨(a++[y],b),zag h'⟩,(hle_X ((2,some 2) :: ((4,some 4) :: (pJ3 []))) (by repeat' (first | exact z0 | refine z1 ?_ | refine ⟨?_,?_⟩ | ((rw [e0];exact (zcw (by simp) (by rw [e1];rfl)).symm)) | exact z2))),by simp⟩
 | nil =>
 have hz':=zaz h'
 rw [List.append_nil] at h'
 subst h'
 have hsz:=hgo ▸ hg.out
 have hV:flights { s with fates:=s.fates.set id 3,next:=U.next,queue:=s.queue.filter fun m=>decide (m.id ≠ (id:Int)),sched:=if s.sched.hand=id then { s.sched with hand:=-1 } else s.sched,out:=U.out.map (Sco.give id),forward:=true }=G:=by
  rw [<- hG];conv=>rhs;rw [hk]
 have hp:=zfz (rows:=(U.out.map (Sco.give id)++[]).map Sent.row) { s with fates:=s.fates.set id 3,next:=U.next,queue:=s.queue.filter fun m=>decide (m.id ≠ (id:Int)),sched:=if s.sched.hand=id then { s.sched with hand:=-1 } else s.sched,out:=U.out.map (Sco.give id),forward:=true } hsz h4 (by rw [List.append_nil])
 rw [hV] at hp
 refine sN ?_
 by_cases c3:s.sched.hand=(id:Int)
 case pos =>
  rw [if_pos c3] at hp
  rw [show (s.sched.hand == (id:Int))=true from beq_iff_eq.2 c3];conv=>whnf
  exact yy128
 case neg =>
  rw [if_neg c3] at hp
  rw [show (s.sched.hand == (id:Int))=false from beq_eq_false_iff_ne.2 c3];conv=>whnf
  exact yy128
end Snd
namespace Snd
open Ser
theorem zwi (out:List Sent) (cum:Int) (hl:out.length < 2 ^ 38) {rows:List (List PV)} (hr:rows=out.map Sent.row) :
 FunOK Tryz.prog 89 [.p (.sl 20 rows),i64 cum] zad (.tup [i64 (Sco.point out cum).1,Sco.skips (Sco.point out cum).2]) zad:=by
 subst hr;exact Sco.zhw out cum hl
abbrev tkC (s t:Sender):HSlot:=.live (.cells 32 (sndC { s with clock:=W (s.clock+1),forward:=t.forward } (Sch.qs s.queue) (ints s.sched.had) (Sco.sents t.out) (pths s.paths) (ints s.mids) (ints s.fates)))
abbrev tkR (s:Sender) (f:Bool) (r:List (List PV)):HSlot:=.live (.cells 32 (sndC { s with clock:=W (s.clock+1),forward:=f } (Sch.qs s.queue) (ints s.sched.had) (.p (.sl 20 r)) (pths s.paths) (ints s.mids) (ints s.fates)))
theorem ynm {i:Int} {y:Sent} (h:¬ (y.state=1 /\ y.path=i)):Sco.late i y=y:=if_neg h
theorem yrd {i:Int} {y:Sent} (h:y.state=1 /\ y.path=i):Sco.late i y={ y with state:=3 }:=if_pos h
theorem zpx {α:Type} {C B:List α} {p q:α} {i:Nat} (h:C.length=i):(C++p :: B).set i q=C++q :: B:=by
 subst h;simp
theorem yjb {N:Nat} (s:Sender) (hS:SI N s):FunOK Tryz.prog 37 [s.hv] zad (tick s).hv zad:=by
 obtain ⟨h1,h2,h3,h4,h5,h6,h7⟩:=hS.fit
 have hT:(List.range s.paths.length).foldl (late1 s.config.part) { s with clock:=W (s.clock+1) }=tick s:=rfl
 generalize tick s=T at hT ⊢
 refine zai mixed Tryz.func37 (by decide) ?_
 conv=>whnf
 refine sR ?_
 refine ⟨{ x:(List Path × List Path) × Sender × List Path // s.paths=x.1.1++x.1.2 /\ (List.range x.1.1.length).foldl (late1 s.config.part) { s with clock:=W (s.clock+1) }=x.2.1 /\ x.2.1={ s with clock:=W (s.clock+1),out:=x.2.1.out,paths:=x.2.2++x.1.2,forward:=x.2.1.forward } /\ Sco.Sized x.2.1.out /\ x.2.2.length=x.1.1.length },
  fun | ⟨((A,B),t,C),_⟩=>hs 89 [(1,.ptr 1 0),(2,.ptr 2 0),(3,.own 900),(15,pths s.paths),(16,i64 s.paths.length),(17,i64 A.length)] [(1,tkC s t),(2,sc0),(900,rowW C)],fun x=>x.1.1.2.length,⟨(([],s.paths),{ s with clock:=W (s.clock+1) },[]),rfl,rfl,rfl,h3,rfl⟩,?_,?_⟩
 . exact (hle_Q [(1,some 1),(2,some 2),(900,none)])
 rintro ⟨⟨⟨A,B⟩,t,C⟩,h,ht,hk,hz3,hC⟩
 dsimp only at h ht hk hz3 hC
 have hql:s.paths.length=A.length+B.length:=by rw [h];simp
 refine zbh fun Q hQ=>?_
 conv=>whnf
 cases B with
 | nil =>
  have hz:=zaz h
  rw [List.append_nil] at h hk
  subst h
  rw [hT] at ht
  subst ht
  refine sN ?_
  refine hQ _ _ ?_;conv=>whnf
  rw [hk]
  try rfl
 | cons p B =>
 have hz:=zat h
 have hp:t.paths[A.length]?=some p:=by rw [hk];simp [<- hC]
 have hst:=zfr (late1 s.config.part) { s with clock:=W (s.clock+1) } A.length
 rw [ht] at hst
 have hAl:(A++[p]).length=A.length+1:=by simp
 have hcl:t.clock=W (s.clock+1):=by rw [hk]
 have hcu:t.cum=s.cum:=by rw [hk]
 have hz1:=hz3.len
 refine sT ?_
 refine zah h rfl ?_;conv=>whnf
 (try (refine hcut.go ?_;conv=>whnf))
 by_cases c1:p.alarm=0
 case pos =>
  rw [zjq hp (.inl c1)] at hst
  refine zab (by simp [c1]) ?_;conv=>whnf
  exact yy52
 refine zac (bne_iff_ne.2 c1) ?_;conv=>whnf
 by_cases c2:W (s.clock+1) < p.alarm
 case pos =>
  rw [zjq hp (.inr (by rw [hcl];exact c2))] at hst
  refine zab (by simpa using c2) ?_;conv=>whnf
  exact yy52
 have hgo:=ygg (part:=s.config.part) hp (fun h=>h.elim c1 (by rw [hcl];exact c2))
 have hsz:=ztd A.length hz3
 have hset:t.paths.set A.length (Paths.late p s.config.part)=(C++[Paths.late p s.config.part])++B:=by
  rw [hk];show (C++p :: B).set _ _=_;rw [zpx hC];simp
 refine zac (by simpa using c2) ?_;conv=>whnf
 refine zaa (c:=(([]:List (List PV)).length+(t.out.map Sent.row).length) * 200 <= 140737488355328) (by simp;omega) ?_;conv=>whnf
 refine ⟨{ x:List Sent × List Sent // t.out=x.1++x.2 },fun | ⟨(a,b),_⟩=>hs 89 [(1,.ptr 1 0),(2,.ptr 2 0),(3,.own 900),(4,i64 A.length),(5,.ptr 5 0),(6,.own 902),(15,pths s.paths),(16,i64 s.paths.length),(17,i64 A.length),(37,i64 t.out.length),(38,i64 a.length)] [(1,tkC s t),(2,sc0),(5,.live (.cells 86 p.cells)),(900,rowW C),(902,rowX (a.map (Sco.late A.length)++b))],fun x=>x.1.2.length,⟨([],t.out),rfl⟩,?_,?_⟩
 . exact (hle_Q [(1,some 1),(2,some 2),(5,some 5),(900,some 900),(902,some 35)])
 rintro ⟨⟨a,b⟩,h'⟩
 dsimp only at h'
 refine zbh fun Q2 hQ2=>?_
 conv=>whnf
 cases b with
 | cons y b =>
  have hz':=zat h'
  have e0:(a++[y]).map (Sco.late A.length)++b=a.map (Sco.late A.length)++Sco.late A.length y :: b:=by simp
  refine sT ?_
  refine sO ?_
  refine zah (a:=a.map (Sco.late A.length)) (b:=b) (s:=y) rfl (by simp) ?_;conv=>whnf
  by_cases d1:y.state=1
  case neg =>
   have e1:=ynm (i:=A.length) (y:=y) fun h=>d1 h.1
   refine zab (beq_eq_false_iff_ne.2 d1) ?_;conv=>whnf
   exact yy81
  refine zac (beq_iff_eq.2 d1) ?_;conv=>whnf
  refine sO ?_
  refine zah (a:=a.map (Sco.late A.length)) (b:=b) (s:=y) rfl (by simp) ?_;conv=>whnf
  by_cases d2:y.path=(A.length:Int)
  case neg =>
   have e1:=ynm (i:=A.length) (y:=y) fun h=>d2 h.2
   refine zab (by simpa using d2) ?_;conv=>whnf
   exact yy81
  have e1:=yrd (i:=A.length) (y:=y) ⟨d1,d2⟩
  refine zac (by simpa using d2) ?_;conv=>whnf
  refine sO ?_
  refine zah (a:=a.map (Sco.late A.length)) (b:=b) (s:=y) rfl (by simp) ?_;conv=>whnf
  refine sF ?_
  refine hQ2 _ _ ?_;conv=>whnf
  exact ⟨⟨(a++[y],b),zag h'⟩,(hle_X [(1,some 1),(2,some 2),(5,some 5),(900,some 900),(902,some 902)] (by repeat' (first | exact z0 | refine z1 ?_ | refine ⟨?_,?_⟩ | ((rw [e0];exact (zcw (by simp) (by rw [e1];rfl)).symm)) | exact z2))),by simp⟩
 | nil =>
 have hz':=zaz h'
 rw [List.append_nil] at h'
 subst h'
 have hpt:=zwi (rows:=(t.out.map (Sco.late A.length)++[]).map Sent.row) (t.out.map (Sco.late A.length)) s.cum hsz.len (by rw [List.append_nil])
 have hrow:((t.out.map (Sco.late A.length)++[]).map Sent.row)=(t.out.map (Sco.late A.length)).map Sent.row:=by rw [List.append_nil]
 refine sN ?_
 refine hQ2 _ _ ?_;conv=>whnf
 (refine cL ?_;refine dL (Paths.yil p s.config.part) ?_)
 (refine cP ?_;refine dL hpt ?_)
 by_cases c3:(Sco.point (t.out.map (Sco.late A.length)) s.cum).1 > s.cum
 case pos =>
  rw [if_pos (show (Sco.point (lateS s.config.part t A.length p).out t.cum).1 > t.cum from by rw [hcu];exact c3)] at hgo
  refine zac (by simpa using c3) ?_;conv=>whnf
  (try (refine hcut.go ?_;conv=>whnf))
  refine zaa (c:=((C.map Path.row).length+1) * 56 <= 140737488355328) (by rw [List.length_map];omega) ?_;conv=>whnf
  refine sF ?_
  refine hQ _ _ ?_;conv=>whnf
  exact ⟨⟨((A++[p],B),{ lateS s.config.part t A.length p with forward:=true },C++[Paths.late p s.config.part]),zag h,by rw [hAl,hst];exact hgo,by rw [<- hset];unfold lateS;rw [hk],hsz,by simp [hC]⟩,(hle_Z [35,902] [(1,some 1),(2,some 2),(900,some 84)] (by repeat' (first | exact z0 | refine z1 ?_ | refine ⟨?_,?_⟩ | ((exact zau (f:=Path.row) rfl rfl)) | ((exact congrArg (tkR s true) hrow)) | exact z2))),by simp⟩
 case neg =>
  rw [if_neg (show ¬ (Sco.point (lateS s.config.part t A.length p).out t.cum).1 > t.cum from by rw [hcu];exact c3)] at hgo
  refine zab (by simpa using c3) ?_;conv=>whnf
  (try (refine hcut.go ?_;conv=>whnf))
  refine zaa (c:=((C.map Path.row).length+1) * 56 <= 140737488355328) (by rw [List.length_map];omega) ?_;conv=>whnf
  refine sF ?_
  refine hQ _ _ ?_;conv=>whnf
  exact ⟨⟨((A++[p],B),lateS s.config.part t A.length p,C++[Paths.late p s.config.part]),zag h,by rw [hAl,hst];exact hgo,by rw [<- hset];unfold lateS;rw [hk],hsz,by simp [hC]⟩,(hle_Z [35,902] [(1,some 1),(2,some 2),(900,some 84)] (by repeat' (first | exact z0 | refine z1 ?_ | refine ⟨?_,?_⟩ | ((exact zau (f:=Path.row) rfl rfl)) | ((exact congrArg (tkR s t.forward) hrow)) | exact z2))),by simp⟩
end Snd
namespace Snd
open Ser
def pdC (s:Sender) (q h o p m f x y:HV):List HV:=[i64 s.config.streams,i64 s.config.part,i64 s.config.packet,i64 s.config.paths,i64 s.config.turns,i64 s.config.waiting,i64 s.config.first,i64 s.clock,q,i64 s.sched.last,i64 s.sched.hand,h,o,p,i64 s.cum,i64 s.next,i64 s.room,m,f,hbool s.forward,i64 s.recover,x,y]
abbrev pdS (s:Sender) (q o p m:HV) (x y:Nat):HSlot:=.live (.cells 148 (pdC s q (ints s.sched.had) o p m (ints s.fates) (.own x) (.own y)))
abbrev pdP (s:Sender) (x y:Nat):HSlot:=pdS s (Sch.qs s.queue) (Sco.sents s.out) (pths s.paths) (ints s.mids) x y
def selV (b:Bool) (i:Nat) (v:HV):HV:=match b with
 | true=>.own i
 | false=>v
def selH (b:Bool) (i:Nat) (x:HSlot) (l:List (Nat × HSlot)):List (Nat × HSlot):=match b with
 | true=>(i,x) :: l
 | false=>l
abbrev pdH (b:Bool) (s:Sender) (a c:List Chunk):List (Nat × HSlot) :=
 (1000,pdS s (selV b 1001 (Sch.qs s.queue)) (Sco.sents s.out) (pths s.paths) (ints s.mids) 1007 1008) :: (1007,rowK a) :: (1008,rowK c) ::
  selH b 1001 (rowQ s.queue) []
abbrev pdD:List (Nat × HSlot):=[(1001,.dead)]
theorem ynn {b:Bool} {s:Sender} {a c:List Chunk}:∀ i,lk .free (pdH b s a c) i=.free \/ i ∈ [1000,1001,1007,1008]:=fun i=>by
 rcases zba (L:=pdH b s a c) i with h | h
 . exact .inl h
 . right;cases b <;> simp [selH] at h ⊢ <;> omega
theorem ztj (s:Sender) (a c:List Chunk) (path:Nat) (w:Path) (hw:s.paths[path]?=some w) (_:s.paths.length < 2 ^ 22) :
 FunOK Tryz.prog 101 [.ptr 1000 0,i64 path] (lk .free (pdH false s a c)) (hbool (opened s path)) (lk .free (pdH false s a c)):=by
 have hi:path < s.paths.length:=(List.getElem?_eq_some_iff.1 hw).1
 rw [opened,hw]
 refine zal mixed Tryz.func101 (by decide) [1000,1007,1008] zba ?_
 conv=>whnf
 refine zaj hw rfl ?_;conv=>whnf
 refine zaj hw rfl ?_;conv=>whnf
 refine sD ?_
 (exact zbn [(1000,some 1000),(1007,some 1007),(1008,some 1008)])
theorem ztk (b:Bool) (s S:Sender) (a c:List Chunk) (i:Nat) (x:Sent) (hx:s.out[i]?=some x) (ho:Sco.Sized (s.out.set i (flyX x 0))) (hp:s.paths.length < 2 ^ 22) (hS:flights { s with out:=s.out.set i (flyX x 0) }=S) (ha:a.length < 2 ^ 30) :
 FunOK Tryz.prog 102 [.ptr 1000 0,i64 i,i64 0] (lk .free (pdH b s a c)) (.tup []) (lk .free ((1000,pdP S 0 1008) :: (0,rowK (a++[x.chunk])) :: (1008,rowK c) :: (1007,.dead) :: pdD)):=by
 have ho1:=ho.len
 rw [List.length_set] at ho1
 have hi:i < s.out.length:=(List.getElem?_eq_some_iff.1 hx).1
 have hf:=fun rows=>zfz (rows:=rows) { s with out:=s.out.set i (flyX x 0) } ho hp
 rw [hS] at hf
 cases b <;> (
  refine zal mixed Tryz.func102 (by decide) [1000,1001,1007,1008] ynn ?_
  conv=>whnf
  refine zaa (c:=(([]:List (List PV)).length+(s.out.map Sent.row).length) * 200 <= 140737488355328) (by simp;omega) ?_;conv=>whnf
  refine sOm ?_
  refine zaj (l:=s.out) hx rfl ?_;conv=>whnf
  refine sR ?_
  refine sOm ?_
  refine zaj (l:=s.out) hx rfl ?_;conv=>whnf
  (refine cP ?_;refine dL (hf _ (by rw [List.map_set];rfl)) ?_)
  refine ⟨0,rfl,by decide,?_⟩;conv=>whnf
  refine zaa (c:=((a.map Chunk.row).length+1) * 128 <= 140737488355328) (by simp;omega) ?_;conv=>whnf
  refine ⟨0,rfl,by decide,?_⟩;conv=>whnf
  refine sD ?_
  (exact zby [(1000,some 1000),(1001,some 1001),(1007,some 1007),(1008,some 1008),(0,some 55)] (by repeat' (first | exact z0 | refine z1 ?_ | refine ⟨?_,?_⟩ | ((exact zau (f:=Chunk.row) rfl rfl)) | exact z2))))
theorem ztl (b:Bool) (s S:Sender) (a c:List Chunk) (i:Nat) (x:Sent) (hx:s.out[i]?=some x) (ho:Sco.Sized (s.out.set i (flyX x 1))) (hp:s.paths.length < 2 ^ 22) (hS:flights { s with out:=s.out.set i (flyX x 1) }=S) (ha:c.length < 2 ^ 30) :
 FunOK Tryz.prog 102 [.ptr 1000 0,i64 i,i64 1] (lk .free (pdH b s a c)) (.tup []) (lk .free ((1000,pdP S 1007 0) :: (1007,rowK a) :: (0,rowK (c++[x.chunk])) :: (1008,.dead) :: pdD)):=by
 have ho1:=ho.len
 rw [List.length_set] at ho1
 have hi:i < s.out.length:=(List.getElem?_eq_some_iff.1 hx).1
 have hf:=fun rows=>zfz (rows:=rows) { s with out:=s.out.set i (flyX x 1) } ho hp
 rw [hS] at hf
 cases b <;> (
  refine zal mixed Tryz.func102 (by decide) [1000,1001,1007,1008] ynn ?_
  conv=>whnf
  refine zaa (c:=(([]:List (List PV)).length+(s.out.map Sent.row).length) * 200 <= 140737488355328) (by simp;omega) ?_;conv=>whnf
  refine sOm ?_
  refine zaj (l:=s.out) hx rfl ?_;conv=>whnf
  refine sR ?_
  refine sOm ?_
  refine zaj (l:=s.out) hx rfl ?_;conv=>whnf
  (refine cP ?_;refine dL (hf _ (by rw [List.map_set];rfl)) ?_)
  refine ⟨1,rfl,by decide,?_⟩;conv=>whnf
  refine zaa (c:=((c.map Chunk.row).length+1) * 128 <= 140737488355328) (by simp;omega) ?_;conv=>whnf
  refine ⟨1,rfl,by decide,?_⟩;conv=>whnf
  refine sD ?_
  (exact zby [(1000,some 1000),(1001,some 1001),(1007,some 1007),(1008,some 1008),(0,some 55)] (by repeat' (first | exact z0 | refine z1 ?_ | refine ⟨?_,?_⟩ | ((exact zau (f:=Chunk.row) rfl rfl)) | exact z2))))
end Snd
namespace Snd
open Ser
abbrev pdR (s:Sender) (a c:List Chunk):List (Nat × HSlot):=[(1000,pdP s 0 1),(0,rowK a),(1,rowK c),(1007,.dead),(1008,.dead)]
abbrev cq (s:Sender) (k:Nat) (m:Queued):Sender:={ cutS s k m with queue:=s.queue }
def built (s:Sender) (k:Nat) (m:Queued) (A:List Queued):List Queued:=if decide (m.sent+many s m=m.message.data.length) then A.eraseIdx k else A.set k { m with mid:=midOf s m,sent:=m.sent+many s m,parts:=W (m.parts+1) }
theorem ydf {s:Sender} {k:Nat} {m x:Queued} {A:List Queued} (h:A.length ≠ k):built s k m (A++[x])=built s k m A++[x]:=by
 unfold built
 split
 . rcases Nat.lt_or_gt_of_ne h with h | h
   . rw [List.eraseIdx_of_length_le (by simp;omega),List.eraseIdx_of_length_le (by omega)]
   . rw [List.eraseIdx_append_of_lt_length (by omega)]
 . rcases Nat.lt_or_gt_of_ne h with h | h
   . rw [List.set_eq_of_length_le (by simp;omega),List.set_eq_of_length_le (by omega)]
   . rw [List.set_append_left _ _ (by omega)]
theorem yjc {s:Sender} {m x:Queued} {A:List Queued} (ho:decide (m.sent+many s m=m.message.data.length)=true):built s A.length m (A++[x])=built s A.length m A:=by
 unfold built
 rw [if_pos ho,if_pos ho,List.eraseIdx_append_of_length_le (Nat.le_refl _),List.eraseIdx_of_length_le (Nat.le_refl _)];simp
theorem yjd {s:Sender} {m x:Queued} {A:List Queued} (ho:decide (m.sent+many s m=m.message.data.length)=false):built s A.length m (A++[x])=built s A.length m A++[{ m with mid:=midOf s m,sent:=m.sent+many s m,parts:=W (m.parts+1) }]:=by
 unfold built
 rw [if_neg (by rw [ho];decide),if_neg (by rw [ho];decide),List.set_append_right _ _ (Nat.le_refl _),List.set_eq_of_length_le (Nat.le_refl _)];simp
theorem yno (s:Sender) (k:Nat) (m:Queued) (A:List Queued):(built s k m A).length <= A.length:=by
 unfold built;split
 . exact List.length_eraseIdx_le _ _
 . simp
abbrev rnH (s:Sender) (m:Queued) (a c:List Chunk):List (Nat × HSlot):=[(1000,pdP s 1007 1008),(1007,rowK a),(1008,rowK c),(5,.live (.cells 117 m.cells))]
abbrev rnM (s:Sender) (m:Queued) (a c:List Chunk):List (Nat × HSlot):=[(1000,pdP { s with mids:=zcm s m } 1007 1008),(1007,rowK a),(1008,rowK c),(5,.live (.cells 117 ({ m with mid:=midOf s m }:Queued).cells))]
abbrev x0r (s:Sender) (m:Queued) (o:Bool):Sent:=⟨s.next,m.id,0,0,0,0,m.came,m.message.life,m.message.tries,⟨1,tag s.next,m.message.stream,tag (midOf s m),m.parts,o,m.message.ordered,(m.message.data.drop m.sent.toNat).take (many s m).toNat,[],0,[]⟩⟩
abbrev rnK (s:Sender) (m:Queued) (o:Bool) (r:List (List PV)):HSlot:=.live (.cells 148 (pdC { s with mids:=zcm s m,sched:=Sch.had s.sched { m with mid:=midOf s m } (many s m) o,next:=W (s.next+1) } (Sch.qs s.queue) (ints (Sch.had s.sched { m with mid:=midOf s m } (many s m) o).had) (.p (.sl 20 r)) (pths s.paths) (ints (zcm s m)) (ints s.fates) (.own 1007) (.own 1008)))
theorem rn_eq {s:Sender} {k:Nat} {m:Queued} {o:Bool} (h:o=decide (m.sent+many s m=m.message.data.length)) :
 rnK s m o ((([]:List (List PV))++s.out.map Sent.row)++[(x0r s m o).row])=pdS (cq s k m) (Sch.qs s.queue) (Sco.sents (cutS s k m).out) (pths s.paths) (ints (zcm s m)) 1007 1008:=by
 subst h
 refine congrArg (rnK s m _) ?_
 show _=(s.out++[_]).map Sent.row
 rw [List.map_append];rfl
theorem ynp {s:Sender} {k:Nat} {m:Queued}:built s k m []=[]:=by unfold built;split <;> simp
theorem yre {R P:Prop} (h:R -> P) (r:R):P:=h r
theorem zqx (s:Sender) (a c:List Chunk) (hs:NFit s) (hlast:0 < s.sched.had.length -> 0 <= s.sched.last /\ s.sched.last < s.sched.had.length) (h2p:s.paths.length <= 2) (hb:a.length+c.length < 2 ^ 29)
 (hfl:∀ k m,s.queue[k]?=some m -> Sco.Sized ((cutS s k m).out.set s.out.length (flyX ⟨s.next,m.id,0,0,0,0,m.came,m.message.life,m.message.tries,cut s m (many s m)⟩ (choose s))) /\
  flights { cutS s k m with out:=(cutS s k m).out.set s.out.length (flyX ⟨s.next,m.id,0,0,0,0,m.came,m.message.life,m.message.tries,cut s m (many s m)⟩ (choose s)) }=(next1 ⟨s,[a,c]⟩ k m (many s m)).s) :
 FunOK Tryz.prog 103 [.ptr 1000 0] (lk .free (pdH false s a c)) (hbool (nx s [a,c]).2) (lk .free (pdR (nx s [a,c]).1.s (nth0 (nx s [a,c]).1.out) (nth1 (nx s [a,c]).1.out))):=by
 obtain ⟨g,hp,hp1,hp2,hmsg⟩:=hs
 obtain ⟨⟨f1,f2,f3,f4,f5,f6,f7⟩,g2,g3,g4⟩:=g
 obtain ⟨hch,hch2⟩:=zck hp
 have pc:=Paths.zgl s.paths (by omega)
 rw [hch] at pc
 obtain ⟨w,hw⟩:∃ w,s.paths[choose s]?=some w:=⟨_,List.getElem?_eq_getElem hch2⟩
 have pn:=Sch.yiz s.config.turns s.sched s.queue (by omega) (by omega) hlast
 have po:=ztj s a c (choose s) w hw (by omega)
 have hop:opened s (choose s)=decide (w.flight < w.window):=by rw [opened,hw]
 rw [hop] at po
 generalize hG:nx s [a,c]=G
 refine zal mixed Tryz.func103 (by decide) [1000,1007,1008] zba ?_
 conv=>whnf
 (refine cL ?_;refine dL pc ?_)
 by_cases c1:zcy s < 0
 case pos =>
  (refine cL ?_;refine dL pn ?_)
  refine sD ?_
  refine zac ?_ ?_
  . exact decide_eq_true c1
  conv=>whnf
  rw [yfz c1] at hG
  exact yy79
 obtain ⟨k,hkl,hke⟩:=zvx (t:=s.config.turns) (s:=s.sched) (q:=s.queue) (by unfold zcy at c1;omega)
 have hke':zcy s=k:=hke
 rw [hke] at pn
 obtain ⟨m,hm⟩:∃ m,s.queue[k]?=some m:=⟨_,List.getElem?_eq_getElem hkl⟩
 have hmf:=hmsg m (List.mem_of_getElem? hm)
 obtain ⟨mf,mh,ms,ml,md⟩:=hmf
 obtain ⟨n1,n2,n3⟩:=zmu (s:=s) (m:=m) hp1 hp2 ms ml md
 (refine cL ?_;refine dL pn ?_)
 refine sD ?_
 by_cases c2:w.flight < w.window
 case neg =>
  rw [decide_eq_false c2] at po
  (refine zae [] [(1000,1000),(1007,1007),(1008,1008)] [] ?_;(conv=>whnf);refine dG po ?_)
  rw [yga hw c2] at hG
  exact yy79
 rw [decide_eq_true c2] at po
 (refine zae [] [(1000,1000),(1007,1007),(1008,1008)] [] ?_;(conv=>whnf);refine dG po ?_)
 by_cases c3:(s.out.length:Int) >= 60
 case pos =>
  refine zac ?_ ?_
  . rw [List.length_map];exact decide_eq_true c3
  conv=>whnf
  rw [ygb c3] at hG
  exact yy79
 refine zab ?_ ?_
 . rw [List.length_map];exact decide_eq_false c3
 conv=>whnf
 (try (refine hcut.go ?_;conv=>whnf))
 refine zaj hm rfl ?_;conv=>whnf
 refine zbc (z':=(m.message.data.length:Int) - m.sent) ?_ ?_
 . show W _=_
   rw [List.length_map];exact W_fit (by omega) (by omega)
 conv=>whnf
 refine hcut.meet PUnit (fun _=>hsP [1000,1007,1008] 298 [(0,.ptr 1000 0),(3,i64 (choose s)),(4,i64 k),(5,.ptr 5 0),(6,i64 (many s m))] (rnH s m a c)) ?_ ?_
 . conv=>whnf
   refine zaf (fun c=>?_) (fun c=>?_)
   . have c':(m.message.data.length:Int) - m.sent > s.config.part:=of_decide_eq_true c
     exact yy97
   . have c':¬ (m.message.data.length:Int) - m.sent > s.config.part:=of_decide_eq_false c
     exact yy97
 rintro ⟨⟩
 conv=>whnf
 refine ⟨{ x:List Path × List Path // s.paths=x.1++x.2 },fun | ⟨(A,B),_⟩=>hsP [1000,1007,1008] 298 [(0,.ptr 1000 0),(3,i64 (choose s)),(4,i64 k),(5,.ptr 5 0),(6,i64 (many s m)),(7,i64 (A.foldl (fun n a=>W (n+a.flight)) 0)),(89,pths s.paths),(90,i64 s.paths.length),(91,i64 A.length)] (rnH s m a c),fun x=>x.1.2.length,⟨([],s.paths),rfl⟩,?_,?_⟩
 . exact (hle_P [(1000,some 1000),(1007,some 1007),(1008,some 1008),(5,some 5)])
 rintro ⟨⟨A,B⟩,h⟩
 dsimp only at h
 conv=>whnf
 cases B with
 | cons p B =>
  have hz:=zat h
  refine sT ?_
  refine zah h rfl ?_;conv=>whnf
  refine sR ?_
  refine sF ?_
  exact ⟨⟨(A++[p],B),zag h⟩,(hle_Y [(1000,some 1000),(1007,some 1007),(1008,some 1008),(5,some 5)] (by repeat' (first | exact z0 | refine z1 ?_ | refine ⟨?_,?_⟩ | ((exact zaw (by rw [List.foldl_append];rfl))) | exact z2))),by simp⟩
 | nil =>
 have hz:=zaz h
 rw [List.append_nil] at h
 subst h
 refine sNm ?_
 have hWs:W (m.sent+many s m)=m.sent+many s m:=W_fit (by omega) (by omega)
 apply yre
 . intro hrest
   by_cases c4:flight s > 0
   case neg =>
    have c6:¬ (flight s > 0 /\ W (flight s+many s m) > s.room):=fun h=>c4 h.1
    refine zab (decide_eq_false c4) ?_;conv=>whnf
    exact yy4
   refine zac (decide_eq_true c4) ?_;conv=>whnf
   refine sRm ?_
   by_cases c5:W (flight s+many s m) > s.room
   case pos =>
    refine zac (decide_eq_true c5) ?_;conv=>whnf
    rw [ygc hke' hm hw c2 c3 ⟨c4,c5⟩] at hG
    exact yy79
   have c6:¬ (flight s > 0 /\ W (flight s+many s m) > s.room):=fun h=>c5 h.2
   refine zab (decide_eq_false c5) ?_;conv=>whnf
   exact yy4
 rintro ⟨c6⟩
 rw [zqn hke' hm hw c2 c3 c6] at hG
 subst hG
 have hov:decide (m.sent+many s m >= ((m.message.data.map bRow).length:Int))=decide (m.sent+many s m=m.message.data.length):=by
  rw [List.length_map];by_cases h:m.sent+many s m=m.message.data.length
  . rw [decide_eq_true h,decide_eq_true];omega
  . rw [decide_eq_false h,decide_eq_false];omega
 conv=>whnf
 refine zam (z:=m.sent+many s m) hWs ?_;conv=>whnf
 (refine cP ?_;refine dL (Sch.ynk s.sched { m with mid:=midOf s m } (many s m) (decide (m.sent+many s m >= ((m.message.data.map bRow).length:Int))) (by omega)) ?_)
 refine sD ?_
 refine zaa (c:=(([]:List (List PV)).length+(s.out.map Sent.row).length) * 200 <= 140737488355328) (by simp;omega) ?_;conv=>whnf
 (refine cL ?_;refine dL (zbv s.next) ?_)
 (refine cL ?_;refine dL (zbv (midOf s m)) ?_)
 refine zam (z:=m.sent+many s m) hWs ?_;conv=>whnf
 refine zaa (c:=0 <= m.sent /\ m.sent <= m.sent+many s m /\ m.sent+many s m <= ((m.message.data.map bRow).length:Int)) ⟨ms,by omega,by rw [List.length_map];omega⟩ ?_
 refine zev (o':=m.sent.toNat) (n':=(many s m).toNat) rfl (show (m.sent+many s m - m.sent).toNat=(many s m).toNat by rw [show m.sent+many s m - m.sent=many s m by omega]) ?_
 refine zee (f:=bRow) (l:=m.message.data) (o:=m.sent.toNat) (n:=(many s m).toNat) (by omega) ?_
 conv=>whnf
 refine zaa (c:=((([]:List (List PV))++s.out.map Sent.row).length+1) * 200 <= 140737488355328) (by simp;omega) ?_;conv=>whnf
 refine sD ?_
 refine sR ?_
 refine zam (z:=m.sent+many s m) hWs ?_;conv=>whnf
 refine sR ?_
 refine ⟨{ x:List Queued × List Queued // s.queue=x.1++x.2 },fun | ⟨(A,B),_⟩=>hsP [1000,1007,1008] 298 [(0,.ptr 1000 0),(3,i64 (choose s)),(4,i64 k),(5,.ptr 5 0),(12,hbool (decide (m.sent+many s m=m.message.data.length))),(13,.own 900),(260,Sch.qs s.queue),(261,i64 s.queue.length),(262,i64 A.length)] [(1000,pdS (cq s k m) (Sch.qs s.queue) (Sco.sents (cutS s k m).out) (pths s.paths) (ints (zcm s m)) 1007 1008),(1007,rowK a),(1008,rowK c),(5,.live (.cells 117 ({ m with mid:=midOf s m,sent:=m.sent+many s m,parts:=W (m.parts+1) }:Queued).cells)),(900,rowQ (built s k m A))],fun x=>x.1.2.length,⟨([],s.queue),rfl⟩,?_,?_⟩
 . exact (hle_Z [234] [(1000,some 1000),(1007,some 1007),(1008,some 1008),(5,some 5),(900,none)] (by repeat' (first | exact z0 | refine z1 ?_ | refine ⟨?_,?_⟩ | ((exact congrArg hbool hov.symm)) | ((exact rn_eq hov)) | ((show List.map Queued.row (built s k m [])=[];rw [ynp];rfl)) | exact z2)))
 rintro ⟨⟨A,B⟩,h⟩
 dsimp only at h
 refine zbh fun Q hQ=>?_
 conv=>whnf
 cases B with
 | cons x B =>
  have hz:=zat h
  have hbl:=yno s k m A
  refine sT ?_
  refine zah h rfl ?_;conv=>whnf
  (try (refine hcut.go ?_;conv=>whnf))
  by_cases d:A.length=k
  case neg =>
   have hb:=ydf (s:=s) (m:=m) (x:=x) d
   refine zab (beq_eq_false_iff_ne.2 (by omega)) ?_;conv=>whnf
   (try (refine hcut.go ?_;conv=>whnf))
   refine zac (bne_iff_ne.2 (by omega)) ?_;conv=>whnf
   refine zaa (c:=(((built s k m A).map Queued.row).length+1) * 96 <= 140737488355328) (by rw [List.length_map];omega) ?_;conv=>whnf
   exact yy83
  refine zac (beq_iff_eq.2 (by omega)) ?_;conv=>whnf
  (try (refine hcut.go ?_;conv=>whnf))
  refine zab (by simp [d]) ?_;conv=>whnf
  subst d
  by_cases e:m.sent+many s m=m.message.data.length
  case pos =>
   have hb:=yjc (s:=s) (x:=x) (A:=A) (decide_eq_true e)
   refine zab (by rw [decide_eq_true e];rfl) ?_;conv=>whnf
   (try (refine hcut.go ?_;conv=>whnf))
   refine sF ?_
   refine hQ _ _ ?_;conv=>whnf
   exact ⟨⟨(A++[x],B),zag h⟩,(hle_Y [(1000,some 1000),(1007,some 1007),(1008,some 1008),(5,some 5),(900,some 900)] (by repeat' (first | exact z0 | refine z1 ?_ | refine ⟨?_,?_⟩ | ((rw [hb])) | exact z2))),by simp⟩
  have hb:=yjd (s:=s) (x:=x) (A:=A) (decide_eq_false e)
  refine zac (by rw [decide_eq_false e];rfl) ?_;conv=>whnf
  refine zaa (c:=(((built s A.length m A).map Queued.row).length+1) * 96 <= 140737488355328) (by rw [List.length_map];omega) ?_;conv=>whnf
  exact yy83
 | nil =>
 have hz:=zaz h
 rw [List.append_nil] at h
 subst h
 obtain ⟨hsz,hfe⟩:=hfl k m hm
 have hx:(cutS s k m).out[s.out.length]?=some (⟨s.next,m.id,0,0,0,0,m.came,m.message.life,m.message.tries,cut s m (many s m)⟩:Sent):=by
  show (s.out++[_])[s.out.length]?=_
  rw [List.getElem?_append_right (Nat.le_refl _)];simp
 have hol:(cutS s k m).out.length=s.out.length+1:=by show (s.out++[_]).length=_;simp
 have hn1:next1 ⟨s,[a,c]⟩ k m (many s m)=fly ⟨cutS s k m,[a,c]⟩ s.out.length (choose s):=zec s [a,c] k m
 refine sN ?_
 refine hQ _ _ ?_;conv=>whnf
 refine zbc (z':=(s.out.length:Int)) ?_ ?_
 . show W ((((cutS s k m).out.map Sent.row).length:Int) - 1)=_
   rw [List.length_map,hol,W_fit (by omega) (by omega)];omega
 conv=>whnf
 have hc01:choose s=0 \/ choose s=1:=by omega
 rcases hc01 with hc | hc
 . have ho1:(next1 ⟨s,[a,c]⟩ k m (many s m)).out=[a++[cut s m (many s m)],c]:=by
    rw [hn1,hc];simp only [fly,hx,setAt];rfl
   rw [hc] at hsz hfe
   have pf:=ztk true (cutS s k m) (next1 ⟨s,[a,c]⟩ k m (many s m)).s a c s.out.length (⟨s.next,m.id,0,0,0,0,m.came,m.message.life,m.message.tries,cut s m (many s m)⟩:Sent) hx hsz (by show s.paths.length < _;omega) hfe (by omega)
   generalize next1 ⟨s,[a,c]⟩ k m (many s m)=G at ho1 pf ⊢
   rw [hc]
   (refine zae [] [(1000,1000),(1001,900),(1007,1007),(1008,1008)] [(0,920)] ?_;(conv=>whnf);refine dG pf ?_)
   (exact zby [(1000,some 1000),(1007,some 1007),(1008,some 1008),(0,some 920),(1,some 1008)] (by repeat' (first | exact z0 | refine z1 ?_ | refine ⟨?_,?_⟩ | ((rw [ho1];rfl)) | exact z2)))
 . have ho1:(next1 ⟨s,[a,c]⟩ k m (many s m)).out=[a,c++[cut s m (many s m)]]:=by
    rw [hn1,hc];simp only [fly,hx,setAt];rfl
   rw [hc] at hsz hfe
   have pf:=ztl true (cutS s k m) (next1 ⟨s,[a,c]⟩ k m (many s m)).s a c s.out.length (⟨s.next,m.id,0,0,0,0,m.came,m.message.life,m.message.tries,cut s m (many s m)⟩:Sent) hx hsz (by show s.paths.length < _;omega) hfe (by omega)
   generalize next1 ⟨s,[a,c]⟩ k m (many s m)=G at ho1 pf ⊢
   rw [hc]
   (refine zae [] [(1000,1000),(1001,900),(1007,1007),(1008,1008)] [(0,920)] ?_;(conv=>whnf);refine dG pf ?_)
   (exact zby [(1000,some 1000),(1007,some 1007),(1008,some 1008),(0,some 1007),(1,some 920)] (by repeat' (first | exact z0 | refine z1 ?_ | refine ⟨?_,?_⟩ | ((rw [ho1];rfl)) | exact z2)))
end Snd
namespace Snd
open Ser
abbrev hrS (c:Chunk) (V:Sender):List (Nat × HSlot):=[(2,scS V),(3,.live (.cells 61 c.cells)),(4,sc0)]
theorem yje {N:Nat} (s:Sender) (c:Chunk) (hS:SI N s) (hsp:c.spans.length < 2 ^ 60):FunOK Tryz.prog 35 [s.hv,c.hv] zad (hear s c).hv zad:=by
 have hr:=hS.right
 have hs':=hS.fit
 obtain ⟨h1,h2,h3,h4,h5,h6,h7⟩:=hs'
 obtain ⟨q1,q2⟩:-(2 ^ 40) <= s.cum /\ s.cum <= 2 ^ 40:=by
  have:=hS.cum;have:=hS.nextle;have:=hS.next;have:=hS.few;have:=(zca hS.cfg);omega
 generalize hT:hear s c=T
 have pnr:=zhd s.cum c.tag q1 q2
 have hol:=h3.len
 refine zai mixed Tryz.func35 (by decide) ?_
 by_cases c1:c.kind=2
 case neg =>
  rw [hear,if_pos c1] at hT
  subst hT
  conv=>whnf
  refine zac (by simpa using c1) ?_;conv=>whnf
  try rfl
 rw [hear,if_neg (fun h=>h c1)] at hT
 by_cases k1:near s.cum c.tag < s.cum
 case pos =>
  rw [if_pos (.inl k1)] at hT
  subst hT
  generalize near s.cum c.tag=nr at pnr k1
  conv=>whnf
  refine zab (by simpa using c1) ?_;conv=>whnf
  (try (refine hcut.go ?_;conv=>whnf))
  (refine cL ?_;refine dL pnr ?_)
  refine zac (decide_eq_true k1) ?_;conv=>whnf
  try rfl
 by_cases k2:near s.cum c.tag > s.cum+s.out.length
 case pos =>
  rw [if_pos (.inr k2)] at hT
  subst hT
  generalize near s.cum c.tag=nr at pnr k1 k2
  conv=>whnf
  refine zab (by simpa using c1) ?_;conv=>whnf
  (try (refine hcut.go ?_;conv=>whnf))
  (refine cL ?_;refine dL pnr ?_)
  refine zab (decide_eq_false k1) ?_;conv=>whnf
  refine sF ?_
  refine zac (by rw [List.length_map];exact decide_eq_true k2) ?_;conv=>whnf
  try rfl
 rw [if_neg (fun h=>h.elim k1 k2),zoo] at hT
 have kk:¬ (near s.cum c.tag < s.cum \/ near s.cum c.tag > s.cum+s.out.length):=fun h=>h.elim k1 k2
 have hks:=znv h3 s.cum c s.paths.length
 have hlo:(Sco.sack s.out s.cum c s.paths.length).2.2.2.length <= s.out.length:=by
  rw [Sco.sack,if_neg kk]
  exact yy124
 have hcl:(Sco.sack s.out s.cum c s.paths.length).2.2.1.length=s.paths.length:=by
  rw [Sco.sack,if_neg kk];simp only [Sco.zjk];rfl
 have hU:=fun t (h:SI N t)=>zzu (N:=N) (s:=t) h (part:=s.config.part) (L:=(Sco.sack s.out s.cum c s.paths.length).2.2.2)
 have hTS:=zzt hS kk
 have hk:FunOK Tryz.prog 84 [Sco.sents s.out,i64 s.cum,c.hv,i64 ((s.paths.map Path.row).length:Nat)] zad (.tup [Sco.sents (Sco.sack s.out s.cum c s.paths.length).1,i64 (Sco.sack s.out s.cum c s.paths.length).2.1,ints (Sco.sack s.out s.cum c s.paths.length).2.2.1,ints (Sco.sack s.out s.cum c s.paths.length).2.2.2]) zad:=by
  rw [List.length_map];exact Sco.yja s.out s.cum c s.paths.length h3 hr hsp
 generalize Sco.sack s.out s.cum c s.paths.length=K at hk hT hks hlo hcl hU hTS
 obtain ⟨K1,K2,K3,K4⟩:=K
 dsimp only at hk hT hks hlo hcl hU hTS
 clear kk
 generalize near s.cum c.tag=nr at pnr k1 k2
 conv=>whnf
 refine zab (by simpa using c1) ?_;conv=>whnf
 (try (refine hcut.go ?_;conv=>whnf))
 (refine cL ?_;refine dL pnr ?_)
 refine zab (decide_eq_false k1) ?_;conv=>whnf
 refine sF ?_
 refine zab (by rw [List.length_map];exact decide_eq_false k2) ?_;conv=>whnf
 (try (refine hcut.go ?_;conv=>whnf))
 (refine cP ?_;refine dL hk ?_)
 refine sD ?_
 refine ⟨{ x:List Path × List Path // s.paths=x.1++x.2 },fun | ⟨(A,B),_⟩=>hs 215 [(2,.ptr 2 0),(3,.ptr 3 0),(4,.ptr 4 0),(6,i64 s.cum),(8,i64 K2),(9,ints K3),(10,ints K4),(11,.own 900),(73,pths s.paths),(74,i64 s.paths.length),(75,i64 A.length)] ((900,rowW (A.mapIdx fun i p=>if K3[i]?.getD 0 > 0 then Paths.acked p (K3[i]?.getD 0) s.config.part (decide (K2 > s.cum)) else p)) :: hrS c { s with out:=K1,cum:=K2,room:=c.room }),fun x=>x.1.2.length,⟨([],s.paths),rfl⟩,?_,?_⟩
 . exact (hle_X [(2,some 2),(3,some 3),(4,some 4),(900,none)] (by repeat' (first | exact z0 | refine z1 ?_ | refine ⟨?_,?_⟩ | ((exact zaw (by rw [List.length_map]))) | exact z2)))
 rintro ⟨⟨A,B⟩,h⟩
 dsimp only at h
 refine zbh fun Q hQ=>?_
 conv=>whnf
 cases B with
 | cons p B =>
  have hz:=zat h
  have hql:s.paths.length=A.length+(p :: B).length:=by rw [h];simp
  obtain ⟨n,hn⟩:∃ n,K3[A.length]?=some n:=⟨_,List.getElem?_eq_getElem (by rw [hcl,hql];simp)⟩
  have hm:(A++[p]).mapIdx (fun i p=>if K3[i]?.getD 0 > 0 then Paths.acked p (K3[i]?.getD 0) s.config.part (decide (K2 > s.cum)) else p)=A.mapIdx (fun i p=>if K3[i]?.getD 0 > 0 then Paths.acked p (K3[i]?.getD 0) s.config.part (decide (K2 > s.cum)) else p)++[if n > 0 then Paths.acked p n s.config.part (decide (K2 > s.cum)) else p]:=by
   rw [List.mapIdx_concat,hn];rfl
  refine sT ?_
  refine zah h rfl ?_;conv=>whnf
  (try (refine hcut.go ?_;conv=>whnf))
  refine zaj hn rfl ?_;conv=>whnf
  by_cases d1:n > 0
  case pos =>
   rw [if_pos d1] at hm
   refine zac (decide_eq_true d1) ?_;conv=>whnf
   refine zaj hn rfl ?_;conv=>whnf
   (refine cL ?_;refine dL (Paths.yck p n s.config.part (decide (K2 > s.cum))) ?_)
   refine sD ?_
   exact yy48
  rw [if_neg d1] at hm
  refine zab (decide_eq_false d1) ?_;conv=>whnf
  (try (refine hcut.go ?_;conv=>whnf))
  exact yy48
 | nil =>
 have hz:=zaz h
 rw [List.append_nil] at h
 subst h
 refine sN ?_
 refine hQ _ _ ?_;conv=>whnf
 have hcp:(s.paths.mapIdx fun i p=>if K3[i]?.getD 0 > 0 then Paths.acked p (K3[i]?.getD 0) s.config.part (decide (K2 > s.cum)) else p).length=s.paths.length:=List.length_mapIdx
 have hTe:zls s c (K1,K2,K3,K4)=flights { s with out:=K1,cum:=K2,room:=c.room,paths:=s.paths.mapIdx fun i p=>if K3[i]?.getD 0 > 0 then Paths.acked p (K3[i]?.getD 0) s.config.part (decide (K2 > s.cum)) else p }:=rfl
 have htl:(flights { s with out:=K1,cum:=K2,room:=c.room,paths:=s.paths.mapIdx fun i p=>if K3[i]?.getD 0 > 0 then Paths.acked p (K3[i]?.getD 0) s.config.part (decide (K2 > s.cum)) else p }).paths.length=s.paths.length:=by
  show (List.mapIdx _ _).length=_
  rw [List.length_mapIdx];exact hcp
 have htc:(flights { s with out:=K1,cum:=K2,room:=c.room,paths:=s.paths.mapIdx fun i p=>if K3[i]?.getD 0 > 0 then Paths.acked p (K3[i]?.getD 0) s.config.part (decide (K2 > s.cum)) else p }).cum=K2:=rfl
 have htp:(flights { s with out:=K1,cum:=K2,room:=c.room,paths:=s.paths.mapIdx fun i p=>if K3[i]?.getD 0 > 0 then Paths.acked p (K3[i]?.getD 0) s.config.part (decide (K2 > s.cum)) else p }).config.part=s.config.part:=rfl
 have pf:=zka { s with out:=K1,cum:=K2,room:=c.room,paths:=s.paths.mapIdx fun i p=>if K3[i]?.getD 0 > 0 then Paths.acked p (K3[i]?.getD 0) s.config.part (decide (K2 > s.cum)) else p } hks (by dsimp only;omega)
 rw [hTe] at hT hTS
 generalize flights { s with out:=K1,cum:=K2,room:=c.room,paths:=s.paths.mapIdx fun i p=>if K3[i]?.getD 0 > 0 then Paths.acked p (K3[i]?.getD 0) s.config.part (decide (K2 > s.cum)) else p }=t at pf hT hTS htl htc htp
 (refine zao [(0,950)]  ?_;(conv=>whnf);refine dOm pf ?_)
 have hpl:=hr.p0
 obtain ⟨hch,hch2⟩:=zck (s:=t) (by omega)
 obtain ⟨w,hw⟩:∃ w,t.paths[choose t]?=some w:=⟨_,List.getElem?_eq_getElem hch2⟩
 refine hcut.meet PUnit (fun _=>hs 215 [(2,.ptr 2 0),(3,.ptr 3 0),(4,.ptr 4 0),(6,i64 s.cum),(8,i64 K2)] (hrS c (zif s.config.part t K4))) ?_ ?_
 . conv=>whnf
   rcases List.eq_nil_or_concat K4 with rfl | ⟨L,z,rfl⟩
   case inl =>
    conv=>whnf
    refine sDm ?_
    exact ⟨⟨⟩,(hle_Z [950] [(2,some 2),(3,some 3),(4,some 4)] (by repeat' (first | exact z0 | refine z1 ?_ | refine ⟨?_,?_⟩ | ((exact zaw rfl)) | exact z2)))⟩
   rw [List.concat_eq_append] at hlo ⊢
   have hUe:zif s.config.part t (L++[z])=if z > t.recover then upS t s.config.part w else t:=by
    unfold zif
    rw [List.getLast?_concat]
    dsimp only
    rw [upS,setAt,hw]
   have hll:((L++[z]).map (fun n:Int=>[pi n])).length=L.length+1:=by simp
   have hLl:L.length < 2 ^ 38:=by
    have:=hlo
    rw [List.length_append] at this
    simp only [List.length_cons,List.length_nil] at this
    omega
   refine zac (decide_eq_true (by omega)) ?_;conv=>whnf
   refine sFm ?_
   refine zah (f:=fun n:Int=>[pi n]) (a:=L) (b:=[]) (s:=z) rfl (by omega) ?_;conv=>whnf
   refine sDm ?_
   by_cases e0:z > t.recover
   case neg =>
    rw [if_neg e0] at hUe
    refine zab (decide_eq_false e0) ?_;conv=>whnf
    exact ⟨⟨⟩,(hle_Z [950] [(2,some 2),(3,some 3),(4,some 4)] (by repeat' (first | exact z0 | refine z1 ?_ | refine ⟨?_,?_⟩ | ((rw [hUe])) | exact z2)))⟩
   rw [if_pos e0] at hUe
   refine zac (decide_eq_true e0) ?_;conv=>whnf
   have pc:=Paths.zgl t.paths (by omega)
   rw [hch] at pc
   (refine cL ?_;refine dLm pc ?_)
   refine zaa (by rw [List.length_map];omega) ?_;conv=>whnf
   refine zaj hw rfl ?_;conv=>whnf
   (refine cL ?_;refine dLm (Paths.zno w t.config.part) ?_)
   refine zaa (by rw [List.length_map];omega) ?_;conv=>whnf
   refine zaj hw rfl ?_;conv=>whnf
   refine sDm ?_
   refine sRm ?_
   have hr:(t.paths.map Path.row).set (choose t) (Paths.halved w t.config.part).row=(upS t t.config.part w).paths.map Path.row:=by rw [upS];dsimp only;rw [List.map_set]
   exact ⟨⟨⟩,(hle_Z [950] [(2,some 2),(3,some 3),(4,some 4)] (by repeat' (first | exact z0 | refine z1 ?_ | refine ⟨?_,?_⟩ | ((rw [hUe,<- htp];exact congrArg (fun r=>HSlot.live (.cells 32 (sndC (upS t t.config.part w) (Sch.qs t.queue) (ints t.sched.had) (Sco.sents t.out) (.p (.sl 7 r)) (ints t.mids) (ints t.fates)))) hr)) | exact z2)))⟩
 rintro ⟨⟩
 have hu:=hU t hTS
 generalize hug:zif s.config.part t K4=u at hT hu
 conv=>whnf
 refine hcut.meet PUnit (fun _=>hs 215 [(2,.ptr 2 0),(3,.ptr 3 0),(4,.ptr 4 0)] (hrS c (zer (decide (K2 > s.cum)) u))) ?_ ?_
 . conv=>whnf
   (refine cP ?_;refine dLm (Sco.zhw u.out u.cum hu.fit.out.len) ?_)
   by_cases m1:K2 > s.cum
   case neg =>
    have hv:zer (decide (K2 > s.cum)) u=u:=if_neg (fun h=>m1 (of_decide_eq_true h.1))
    refine zab (decide_eq_false m1) ?_;conv=>whnf
    exact yy78
   refine zac (decide_eq_true m1) ?_;conv=>whnf
   by_cases m2:(Sco.point u.out u.cum).1 > u.cum
   case neg =>
    have hv:zer (decide (K2 > s.cum)) u=u:=if_neg (fun h=>m2 h.2)
    refine zab (decide_eq_false m2) ?_;conv=>whnf
    exact yy78
   have hv:zer (decide (K2 > s.cum)) u={ u with forward:=true }:=if_pos ⟨decide_eq_true m1,m2⟩
   refine zac (decide_eq_true m2) ?_;conv=>whnf
   exact yy78
 rintro ⟨⟩
 have hv:=zzv hu (b:=decide (K2 > s.cum))
 generalize zer (decide (K2 > s.cum)) u=V at hT hv
 have hvq:=hv.fit.queue
 have hvo:=hv.fit.out.len
 have hvf:=hv.fit.fates
 conv=>whnf
 refine ⟨{ x:List Int × List Int // V.fates=x.1++x.2 },fun | ⟨(A,B),_⟩=>hs 215 [(2,.ptr 2 0),(3,.ptr 3 0),(4,.ptr 4 0),(17,.own 900),(159,ints V.fates),(160,i64 V.fates.length),(161,i64 A.length)] ((900,rowT (A.mapIdx fun id f=>settled V id f)) :: hrS c V),fun x=>x.1.2.length,⟨([],V.fates),rfl⟩,?_,?_⟩
 . exact (hle_Q [(2,some 2),(3,some 3),(4,some 4),(900,none)])
 rintro ⟨⟨A,B⟩,h⟩
 dsimp only at h
 refine zbh fun Q hQ=>?_
 conv=>whnf
 cases B with
 | nil =>
  have hz:=zaz h
  rw [List.append_nil] at h
  refine sN ?_
  refine hQ _ _ ?_;conv=>whnf
  subst hT
  have he:(settle V).fates=V.fates.mapIdx fun id f=>settled V id f:=rfl
  rw [show settle V={ V with fates:=A.mapIdx fun id f=>settled V id f } by rw [<- h];rfl]
  try rfl
 | cons f B =>
 have hz:=zat h
 have hmi:(A++[f]).mapIdx (fun id f=>settled V id f)=A.mapIdx (fun id f=>settled V id f)++[settled V A.length f]:=List.mapIdx_concat
 have hset:settled V A.length f=if f=1 /\ ((V.queue.any fun m=>decide (m.id=(A.length:Int))) || V.out.any fun x=>decide (x.id=(A.length:Int)) && decide (x.state ≠ 2))=false then 2 else f:=by
  unfold settled
  simp only [Bool.or_eq_false_iff]
 refine sT ?_
 refine zah (f:=fun n:Int=>[pi n]) h rfl ?_;conv=>whnf
 (try (refine hcut.go ?_;conv=>whnf))
 refine ⟨{ x:List Queued × List Queued // V.queue=x.1++x.2 },fun | ⟨(a,b),_⟩=>hs 215 [(2,.ptr 2 0),(3,.ptr 3 0),(4,.ptr 4 0),(17,.own 900),(18,i64 A.length),(19,i64 f),(20,hbool (a.any fun m=>decide (m.id=(A.length:Int)))),(159,ints V.fates),(160,i64 V.fates.length),(161,i64 A.length),(167,Sch.qs V.queue),(168,i64 V.queue.length),(169,i64 a.length)] ((900,rowT (A.mapIdx fun id f=>settled V id f)) :: hrS c V),fun x=>x.1.2.length,⟨([],V.queue),rfl⟩,?_,?_⟩
 . exact (hle_Q [(2,some 2),(3,some 3),(4,some 4),(900,some 900)])
 rintro ⟨⟨a,b⟩,h'⟩
 dsimp only at h'
 refine zbh fun Q2 hQ2=>?_
 conv=>whnf
 cases b with
 | cons m b =>
  have hz':=zat h'
  have hany:(a++[m]).any (fun m=>decide (m.id=(A.length:Int)))=(a.any (fun m=>decide (m.id=(A.length:Int))) || (m.id == (A.length:Int))):=by rw [List.any_append,List.any_cons,List.any_nil,Bool.or_false];rfl
  refine sT ?_
  refine zah h' rfl ?_;conv=>whnf
  (try (refine hcut.go ?_;conv=>whnf))
  cases hb:a.any fun m=>decide (m.id=(A.length:Int)) with
  | true =>
   rw [hb] at hany
   conv=>whnf
   refine sF ?_
   refine hQ2 _ _ ?_;conv=>whnf
   exact ⟨⟨(a++[m],b),zag h'⟩,(hle_X [(2,some 2),(3,some 3),(4,some 4),(900,some 900)] (by repeat' (first | exact z0 | refine z1 ?_ | refine ⟨?_,?_⟩ | ((rw [hany];rfl)) | exact z2))),by simp⟩
  | false =>
   rw [hb,Bool.false_or] at hany
   conv=>whnf
   refine sF ?_
   refine hQ2 _ _ ?_;conv=>whnf
   exact ⟨⟨(a++[m],b),zag h'⟩,(hle_X [(2,some 2),(3,some 3),(4,some 4),(900,some 900)] (by repeat' (first | exact z0 | refine z1 ?_ | refine ⟨?_,?_⟩ | ((rw [hany])) | exact z2))),by simp⟩
 | nil =>
 have hz':=zaz h'
 rw [List.append_nil] at h'
 refine sN ?_
 refine hQ2 _ _ ?_;conv=>whnf
 obtain rfl:a=V.queue:=h'.symm
 obtain ⟨q,hq⟩:∃ q,q=V.queue.any fun m=>decide (m.id=(A.length:Int)):=⟨_,rfl⟩
 rw [<- hq] at hset
 (try (refine hcut.go ?_;conv=>whnf))
 refine ⟨{ x:List Sent × List Sent // V.out=x.1++x.2 },fun | ⟨(a,b),_⟩=>hs 215 [(2,.ptr 2 0),(3,.ptr 3 0),(4,.ptr 4 0),(17,.own 900),(18,i64 A.length),(19,i64 f),(20,hbool (q || a.any fun x=>decide (x.id=(A.length:Int)) && decide (x.state ≠ 2))),(159,ints V.fates),(160,i64 V.fates.length),(161,i64 A.length),(182,Sco.sents V.out),(183,i64 V.out.length),(184,i64 a.length)] ((900,rowT (A.mapIdx fun id f=>settled V id f)) :: hrS c V),fun x=>x.1.2.length,⟨([],V.out),rfl⟩,?_,?_⟩
 . exact (hle_X [(2,some 2),(3,some 3),(4,some 4),(900,some 900)] (by repeat' (first | exact z0 | refine z1 ?_ | refine ⟨?_,?_⟩ | ((rw [List.any_nil,Bool.or_false,hq])) | exact z2)))
 rintro ⟨⟨a',b⟩,h2'⟩
 dsimp only at h2'
 refine zbh fun Q3 hQ3=>?_
 conv=>whnf
 cases b with
 | cons x b =>
  have hz2:=zat h2'
  have hany:(q || (a'++[x]).any fun x=>decide (x.id=(A.length:Int)) && decide (x.state ≠ 2))=((q || a'.any fun x=>decide (x.id=(A.length:Int)) && decide (x.state ≠ 2)) || ((x.id == (A.length:Int)) && (x.state != 2))):=by
   rw [List.any_append,Bool.or_assoc]
   congr 2
   rw [List.any_cons,List.any_nil,Bool.or_false,Bool.eq_iff_iff];simp
  refine sT ?_
  refine zah h2' rfl ?_;conv=>whnf
  (try (refine hcut.go ?_;conv=>whnf))
  cases hb:(q || a'.any fun x=>decide (x.id=(A.length:Int)) && decide (x.state ≠ 2)) with
  | true =>
   rw [hb] at hany
   conv=>whnf
   refine sF ?_
   refine hQ3 _ _ ?_;conv=>whnf
   exact ⟨⟨(a'++[x],b),zag h2'⟩,(hle_X [(2,some 2),(3,some 3),(4,some 4),(900,some 900)] (by repeat' (first | exact z0 | refine z1 ?_ | refine ⟨?_,?_⟩ | ((rw [hany];rfl)) | exact z2))),by simp⟩
  | false =>
   rw [hb,Bool.false_or] at hany
   conv=>whnf
   by_cases e1:x.id=(A.length:Int)
   case pos =>
    rw [show (x.id == (A.length:Int))=true from beq_iff_eq.2 e1,Bool.true_and] at hany
    refine zac (beq_iff_eq.2 e1) ?_;conv=>whnf
    exact yy93
   case neg =>
    rw [show (x.id == (A.length:Int))=false from beq_eq_false_iff_ne.2 e1,Bool.false_and] at hany
    refine zab (beq_eq_false_iff_ne.2 e1) ?_;conv=>whnf
    exact yy93
 | nil =>
 have hz2:=zaz h2'
 rw [List.append_nil] at h2'
 refine sN ?_
 refine hQ3 _ _ ?_;conv=>whnf
 obtain rfl:a'=V.out:=h2'.symm
 (try (refine hcut.go ?_;conv=>whnf))
 by_cases d1:f=1
 case neg =>
  rw [if_neg (fun h=>d1 h.1)] at hset
  refine zab (beq_eq_false_iff_ne.2 d1) ?_;conv=>whnf
  exact yy21
 refine zac (beq_iff_eq.2 d1) ?_;conv=>whnf
 cases ho:(q || V.out.any fun x=>decide (x.id=(A.length:Int)) && decide (x.state ≠ 2)) with
 | true =>
  rw [ho] at hset
  rw [if_neg (fun h=>Bool.noConfusion h.2)] at hset
  conv=>whnf
  exact yy21
 | false =>
  rw [ho] at hset
  rw [if_pos ⟨d1,rfl⟩] at hset
  conv=>whnf
  exact yy21
end Snd
namespace Snd
open Ser
section
variable {L:List Message} {s:Sender}
end
theorem ygp (s:Sender) (id:Nat):(giveS s id).config=s.config:=(zhg s id).1.config
theorem yae:∀ (q:List Queued) (s:Sender),(∀ m ∈ q,0 <= m.id) -> (q.foldl expQ s).config=s.config
 | [],_,_=>rfl
 | m :: q,s,h=>by
  rw [List.foldl_cons,yae q _ fun x hx=>h x (by simp [hx])]
  unfold expQ
  split
  . have:=h m (by simp)
    rw [show m.id=((m.id.toNat:Nat):Int) by omega];exact ygp s _
  . rfl
theorem yaf:∀ (q:List Sent) (s:Sender),(∀ m ∈ q,0 <= m.id) -> (q.foldl expX s).config=s.config
 | [],_,_=>rfl
 | m :: q,s,h=>by
  rw [List.foldl_cons,yaf q _ fun x hx=>h x (by simp [hx])]
  unfold expX
  split
  . have:=h m (by simp)
    rw [show m.id=((m.id.toNat:Nat):Int) by omega];exact ygp s _
  . rfl
theorem yjf {N:Nat} {s:Sender} (h:SI N s):(expire s).config=s.config:=by
 obtain ⟨h2,-⟩:=zwe s.queue s h fun m hm=>⟨(h.queue m hm).id0,(h.queue m hm).id1⟩
 unfold expire
 rw [yaf _ _ fun x hx=>(h2.out x hx).id0,yae _ _ fun m hm=>(h.queue m hm).id0]
theorem ynq (p:Pump) (i c:Nat):(fly p i c).s.config=p.s.config:=by unfold fly;split <;> rfl
theorem ztm {c:Nat}:∀ (l:List Nat) (p:Pump),(l.foldl (zcd c) p).s.config=p.s.config
 | [],_=>rfl
 | i :: l,p=>by
  rw [List.foldl_cons,ztm l]
  unfold zcd
  split
  . rfl
  . split
    . exact ynq _ _ _
    . rfl
theorem yrf {p q:Pump} (h:next p=some q):q.s.config=p.s.config:=by
 obtain ⟨s,o⟩:=p
 unfold next at h
 dsimp only at h
 split at h
 . cases h
 cases hm:s.queue[(zcy s).toNat]? with
 | none=>rw [hm] at h;cases h
 | some m =>
  rw [hm] at h
  dsimp only at h
  split at h
  . cases h
  . cases h
    rw [zec,ynq];rfl
theorem yag:∀ (n:Nat) (p:Pump),(nexts n p).s.config=p.s.config
 | 0,_=>rfl
 | n+1,p=>by
  unfold nexts
  split
  . rfl
  . rename_i q hq;rw [yag n q,yrf hq]
theorem ydg (p:Pump):(forward p).s.config=p.s.config:=by unfold forward;split <;> rfl
theorem yrg {N:Nat} {s:Sender} (h:SI N s):(pump s).1.config=s.config:=by
 show (pumpP s).s.config=_
 unfold pumpP
 rw [yag]
 unfold again
 rw [ztm,ydg]
 exact yjf h
theorem ynr {l:List Step} (h:bulkR (l.map Step.row) <= 1048576):(∀ x ∈ l,x.message.data.length <= 1048576) /\ l.length <= 1048576:=by
 have h1:∀ x:Step,x.message.data.length+1 <= bulkL x.row:=fun x=>by
  have h1:=yfi (f:=bRow) (fun x=>by simp [bRow,bulkL,PV.bulk]) x.message.data
  simp only [Step.row,bulkL,PV.bulk];omega
 refine ⟨fun x hx=>?_,?_⟩
 . have h2:=yfj (f:=Step.row) hx
   have:=h1 x;omega
 . have:=yfi (f:=Step.row) (fun x=>by have:=h1 x;omega) l
   omega
end Snd
namespace Jn
open Srt
def joinL (n:Nat):Nat -> List Piece -> Option (List UInt8)
 | _,[]=>some []
 | i,p :: r=>if p.chunk.part=(i:Int) /\ p.chunk.last=decide (i+1=n) then (joinL n (i+1) r).map (p.chunk.data++·) else none
def join (l:List Piece):Option (List UInt8):=if l=[] then none else joinL l.length 0 (srt ck l)
def at_ (k:Nat) (p:Piece):Bool:=decide (p.chunk.part=(k:Int))
def zfm (l:List Piece) (n:Nat):Nat -> Nat -> Option (List UInt8)
 | _,0=>some []
 | k,m+1=>match l.filter (at_ k) with
  | [p]=>if p.chunk.last=decide (k+1=n) then (zfm l n (k+1) m).map (p.chunk.data++·) else none
  | _=>none
theorem filter_one {α:Type} {f:α -> Bool} {l l':List α} (h:l.Perm l') (p:α):l.filter f=[p] ↔ l'.filter f=[p]:=by
 have:=h.filter f
 constructor
 . intro e;rw [e] at this;exact List.perm_singleton.1 this.symm
 . intro e;rw [e] at this;exact List.perm_singleton.1 this
theorem yns {l l':List Piece} (h:l.Perm l') (n:Nat):∀ (m k:Nat),zfm l n k m=zfm l' n k m
 | 0,k=>rfl
 | m+1,k=>by
  have hf:=fun p=>filter_one (f:=at_ k) h p
  rw [zfm,zfm]
  split
  . rename_i p hp
    rw [(hf p).1 hp,yns h n m (k+1)]
  . rename_i hno
    split
    . rename_i p hp
      exact absurd ((hf p).2 hp) (hno p)
    . rfl
theorem ynt {l:List Piece} {n:Nat}:∀ {m k:Nat} {b:List UInt8},zfm l n k m=some b -> ∀ i,k <= i -> i < k+m -> ∃ p ∈ l,p.chunk.part=(i:Int)
 | 0,k,b,_,i,h1,h2=>by omega
 | m+1,k,b,h,i,h1,h2=>by
  rw [zfm] at h
  split at h
  . rename_i p hp
    split at h
    . obtain ⟨c,hc,-⟩:=Option.map_eq_some_iff.1 h
      by_cases he:i=k
      . subst he
        have:p ∈ l.filter (at_ i):=by rw [hp];simp
        rw [List.mem_filter] at this
        exact ⟨p,this.1,by simpa [at_] using this.2⟩
      . exact ynt hc i (by omega) (by omega)
    . cases h
  . cases h
def lows (l:List Piece) (k:Nat):Nat:=l.countP fun p=>decide (p.chunk.part < (k:Int))
def highs (l:List Piece) (k:Nat):Nat:=l.countP fun p=>decide ((k:Int) <= p.chunk.part)
theorem yrh (l:List Piece) (k:Nat):lows l k+highs l k=l.length:=by
 induction l with
 | nil=>rfl
 | cons p l ih =>
  simp only [lows,highs,List.countP_cons,List.length_cons] at *
  by_cases h:p.chunk.part < (k:Int)
  . have h2:¬ (k:Int) <= p.chunk.part:=by omega
    simp [h,h2];omega
  . have h2:(k:Int) <= p.chunk.part:=by omega
    simp [h,h2];omega
theorem ygq {l:List Piece} {k:Nat} (h:∃ p ∈ l,p.chunk.part=(k:Int)):lows l k+1 <= lows l (k+1):=by
 induction l with
 | nil=>simp at h
 | cons p l ih =>
  have mono:∀ l:List Piece,l.countP (fun p=>decide (p.chunk.part < (k:Int))) <= l.countP (fun p=>decide (p.chunk.part < ((k+1:Nat):Int))):=fun l=>List.countP_mono_left fun x _ hx=>by simp at hx ⊢;omega
  simp only [lows,List.countP_cons] at ih ⊢
  by_cases he:p.chunk.part=(k:Int)
  . have:=mono l
    have h2:¬ p.chunk.part < (k:Int):=by omega
    have h3:p.chunk.part < ((k+1:Nat):Int):=by omega
    rw [if_neg (by simpa using h2),if_pos (decide_eq_true h3)];omega
  . have:∃ p ∈ l,p.chunk.part=(k:Int):=by
     obtain ⟨q,hq,e⟩:=h
     rcases List.mem_cons.1 hq with rfl | hq
     . exact absurd e he
     . exact ⟨q,hq,e⟩
    have:=ih this
    by_cases h2:p.chunk.part < (k:Int)
    . have h3:p.chunk.part < ((k+1:Nat):Int):=by omega
      rw [if_pos (decide_eq_true h2),if_pos (decide_eq_true h3)];omega
    . have h3:¬ p.chunk.part < ((k+1:Nat):Int):=by omega
      rw [if_neg (by simpa using h2),if_neg (fun h=>h3 (of_decide_eq_true h))];omega
theorem yso {l:List Piece} {n:Nat} (h:∀ i,i < n -> ∃ p ∈ l,p.chunk.part=(i:Int)):∀ k,k <= n -> k <= lows l k
 | 0,_=>Nat.zero_le _
 | k+1,hk=>by have:=yso h k (by omega);have:=ygq (h k (by omega));omega
theorem ysp {l:List Piece} {n:Nat} (hn:l.length=n) (h:∀ i,i < n -> ∃ p ∈ l,p.chunk.part=(i:Int)):∀ j,j <= n -> lows l (n - j) <= n - j
 | 0,_=>by have:=yrh l n;simp only [Nat.sub_zero];omega
 | j+1,hj=>by
  have h1:=ysp hn h j (by omega)
  have h2:=ygq (h (n - (j+1)) (by omega))
  rw [show n - (j+1)+1=n - j by omega] at h2
  omega
theorem zwj:∀ {S:List Piece} (_:Sd ck S) (k:Nat) (i:Nat) (hi:i < S.length),(S[i].chunk.part < (k:Int) ↔ i < lows S k)
 | x :: S,h,k,0,hi=>by
  simp only [lows,List.countP_cons,List.getElem_cons_zero]
  by_cases hx:x.chunk.part < (k:Int)
  . simp [hx]
  . have:S.countP (fun p=>decide (p.chunk.part < (k:Int)))=0:=List.countP_eq_zero.2 fun y hy=>by have:=h.1 y hy;simp;simp only [ck] at this;omega
    simp [hx,this]
 | x :: S,h,k,i+1,hi=>by
  have ih:=zwj h.2 k i (by simpa using hi)
  simp only [lows,List.countP_cons,List.getElem_cons_succ] at *
  by_cases hx:x.chunk.part < (k:Int)
  . simp [hx];exact ih
  . have:S.countP (fun p=>decide (p.chunk.part < (k:Int)))=0:=List.countP_eq_zero.2 fun y hy=>by have:=h.1 y hy;simp;simp only [ck] at this;omega
    rw [this] at ih ⊢
    simp [hx];omega
theorem ydh {S:List Piece} (hs:Sd ck S) (h:∀ i,i < S.length -> ∃ p ∈ S,p.chunk.part=(i:Int)) (i:Nat) (hi:i < S.length):S[i].chunk.part=(i:Int):=by
 have e:∀ k,k <= S.length -> lows S k=k:=fun k hk=>by
  have h1:=yso h k hk
  have h2:=ysp rfl h (S.length - k) (by omega)
  rw [show S.length - (S.length - k)=k by omega] at h2
  omega
 have h1:=zwj hs i i hi
 have h2:=zwj hs (i+1) i hi
 rw [e i (by omega)] at h1
 rw [e (i+1) (by omega)] at h2
 omega
def ztn (i:Nat):List Piece -> Prop
 | []=>True
 | p :: r=>p.chunk.part=(i:Int) /\ ztn (i+1) r
theorem yah:∀ {S:List Piece} {i:Nat},(∀ j (hj:j < S.length),S[j].chunk.part=((i+j:Nat):Int)) -> ztn i S
 | [],_,_=>trivial
 | p :: r,i,h=>⟨by have:=h 0 (by simp);simp only [List.getElem_cons_zero,Nat.add_zero] at this;exact this,yah fun j hj=>by have:=h (j+1) (by simpa using hj);rw [List.getElem_cons_succ] at this;rw [this];congr 1;omega⟩
theorem yai:∀ {S:List Piece} {i:Nat},ztn i S -> ∀ p ∈ S,(i:Int) <= p.chunk.part
 | q :: r,i,h,p,hp=>by
  rcases List.mem_cons.1 hp with rfl | hp
  . rw [h.1];omega
  . have:=yai h.2 p hp;omega
theorem zto {n:Nat}:∀ {S:List Piece} {i:Nat} {b:List UInt8},joinL n i S=some b -> ztn i S
 | [],_,_,_=>trivial
 | p :: r,i,b,h=>by
  rw [joinL] at h
  split at h
  . rename_i c
    obtain ⟨d,hd,-⟩:=Option.map_eq_some_iff.1 h
    exact ⟨c.1,zto hd⟩
  . cases h
theorem filter_none {A:List Piece} {k:Nat} (h:∀ p ∈ A,p.chunk.part ≠ (k:Int)):A.filter (at_ k)=[] :=
 List.filter_eq_nil_iff.2 fun p hp=>by simpa [at_] using h p hp
theorem ydi {S:List Piece} {n:Nat}:∀ {B A:List Piece} {i:Nat},S=A++B -> (∀ p ∈ A,p.chunk.part < (i:Int)) -> ztn i B -> zfm S n i B.length=joinL n i B
 | [],A,i,_,_,_=>rfl
 | p :: B,A,i,hS,hA,hB=>by
  have hf:S.filter (at_ i)=[p]:=by
   rw [hS,List.filter_append,filter_none fun q hq=>by have:=hA q hq;omega,List.filter_cons,if_pos (by simpa [at_] using hB.1),filter_none fun q hq=>by have:=yai hB.2 q hq;omega]
   rfl
  rw [List.length_cons,zfm,hf]
  have ih:=ydi (S:=S) (n:=n) (B:=B) (A:=A++[p]) (i:=i+1) (by rw [hS];simp) (fun q hq=>by
   rcases List.mem_append.1 hq with hq | hq
   . have:=hA q hq;omega
   . rw [List.mem_singleton.1 hq,hB.1];omega) hB.2
  dsimp only
  rw [ih,joinL]
  by_cases c:p.chunk.last=decide (i+1=n)
  . rw [if_pos c,if_pos ⟨hB.1,c⟩]
  . rw [if_neg c,if_neg fun h=>c h.2]
theorem rj_eq (l:List Piece):zfm l l.length 0 l.length=joinL l.length 0 (srt ck l):=by
 have hl:=zgz (key:=ck) l
 rw [yns (zld (key:=ck) (l:=l)).symm]
 have hs:=znl (key:=ck) (l:=l)
 generalize srt ck l=S at *
 rw [<- hl]
 clear hl
 cases hr:zfm S S.length 0 S.length with
 | some b =>
  have:=ydh hs fun i hi=>ynt hr i (by omega) (by omega)
  have ht:ztn 0 S:=yah fun j hj=>by rw [this j hj];simp
  rw [<- hr];exact ydi (A:=[]) rfl (by simp) ht
 | none =>
  cases hj:joinL S.length 0 S with
  | none=>rfl
  | some b =>
   have:=ydi (S:=S) (n:=S.length) (A:=[]) rfl (by simp) (zto hj)
   rw [hr,hj] at this;cases this
def tot (l:List Piece):Nat:=(l.map fun p=>p.chunk.data.length).sum
theorem ygr {l l':List Piece} (h:l.Perm l'):tot l=tot l':=(h.map _).sum_nat
theorem zdp (p:Piece) (l:List Piece):tot (p :: l)=p.chunk.data.length+tot l:=rfl
theorem zja (a b:List Piece):tot (a++b)=tot a+tot b:=by simp [tot]
theorem ynu {l:List Piece} {p:Piece} (h:p ∈ l):p.chunk.data.length <= tot l:=by
 induction l with
 | nil=>cases h
 | cons q l ih =>
  rw [zdp]
  rcases List.mem_cons.1 h with rfl | h
  . omega
  . have:=ih h;omega
def cat (l:List Piece):List UInt8:=(l.map fun p=>p.chunk.data).flatten
theorem ygs (l:List Piece) (p:Piece):cat (l++[p])=cat l++p.chunk.data:=by simp [cat]
theorem yuj (l:List Piece):(cat l).length=tot l:=by induction l with
 | nil=>rfl
 | cons p l ih=>rw [zdp,<- ih];simp [cat]
abbrev pieces (l:List Piece):HV:=.p (.sl 12 (l.map Piece.row))
theorem ztp (n:Int):FunOK Tryz.prog 214 [i64 n] zad (hbool false) zad:=by
 refine zai mixed Tryz.func214 (by decide) ?_
 conv=>whnf
 simp
theorem yaj (a b:Int):FunOK Tryz.prog 209 [i64 a,i64 b] zad (i64 (if a < b then -1 else if a > b then 1 else 0)) zad:=by
 refine zai mixed Tryz.func209 (by decide) ?_
 conv=>whnf
 (refine cL ?_;refine dL (ztp a) ?_)
 (refine cL ?_;refine dL (ztp b) ?_)
 by_cases c:a < b
 . rw [if_pos c]
   ((refine hif_T ?_;conv=>whnf);try (refine hcut.go ?_;conv=>whnf))
 rw [if_neg c]
 refine sN ?_
 by_cases c2:a > b
 . rw [if_pos c2]
   ((refine hif_T ?_;conv=>whnf);try (refine hcut.go ?_;conv=>whnf))
 rw [if_neg c2]
 ((refine hif_F ?_;conv=>whnf);try (refine hcut.go ?_;conv=>whnf))
theorem zwk:CmpOK 208:=fun a b=>by
 refine zai mixed Tryz.func208 (by decide) ?_
 conv=>whnf
 (refine cL ?_;refine dL (yaj a.chunk.part b.chunk.part) ?_)
 rfl
theorem zwl {x:HV} {a b:Bool} (h:a=b):HV.tup [x,hbool a]=HV.tup [x,hbool b]:=by rw [h]
theorem yak (l:List Piece) (hb:l.length < 2 ^ 39):FunOK Tryz.prog 206 [.p (.sl 12 (l.map Piece.row))] zad (.own 0) (lk .free [(0,.live (.row 162 12 (l.map Piece.row)))]):=by
 refine zal mixed Tryz.func206 (by decide) [] (fun _=>.inl rfl) ?_
 conv=>whnf
 intro b hn
 conv=>whnf
 refine zaf (fun c=>?_) (fun c=>?_)
 . conv=>whnf
   exact yy35
 . conv=>whnf
   refine zaa (c:=(([]:List (List PV)).length+(l.map Piece.row).length) * 136 <= 140737488355328) (by simp;omega) ?_
   exact yy25
theorem ynv (l:List Piece) (hb:l.length < 2 ^ 38) (ht:tot l < 2 ^ 40) :
 FunOK Tryz.prog 200 [pieces l] zad (.tup [.own 0,hbool (join l).isSome]) (lk .free [(0,.live (.row 5 1 (((join l).getD []).map bRow)))]):=by
 refine zal mixed Tryz.func200 (by decide) [] (fun _=>.inl rfl) ?_
 conv=>whnf
 (refine zao [(0,9)] ?_;(conv=>whnf);refine dO (yak l (by omega)) ?_)
 (refine zae [] [(1000,9)] [] ?_;(conv=>whnf);refine dG (ylw zwk l (by omega)) ?_)
 have hl:=zgz (key:=ck) l
 have ht2:tot (srt ck l) < 2 ^ 40:=by rw [ygr zld];exact ht
 obtain ⟨S,hS⟩:∃ S,S=srt ck l:=⟨_,rfl⟩
 have hj:join l=if l=[] then none else joinL S.length 0 S:=by rw [join,<- hS,<- hl,hS]
 rw [<- hS] at hl ht2
 refine ⟨{ x:List Piece × List Piece // S=x.1++x.2 /\ joinL S.length 0 S=(joinL S.length x.1.length x.2).map (cat x.1++·) },fun | ⟨(A,B),_⟩=>hs 45 [(4,.own 900),(5,.own 901),(12,.own 900),(13,i64 S.length),(14,i64 A.length)] [(900,.live (.row 162 12 (S.map Piece.row))),(901,.live (.row 5 1 ((cat A).map bRow)))],fun x=>x.1.2.length,⟨([],S),rfl,by simp [cat]⟩,?_,?_⟩
 . exact (hle_X [(900,some 9),(901,none)] (by repeat' (first | exact z0 | refine z1 ?_ | refine ⟨?_,?_⟩ | ((exact zaw (by rw [List.length_map,hS]))) | ((exact zan (by rw [hS]))) | exact z2)))
 rintro ⟨⟨A,B⟩,h,hr⟩
 dsimp only at h hr
 have hAB:S.length=A.length+B.length:=by rw [h];simp
 have htA:tot S=tot A+tot B:=by rw [h,zja]
 conv=>whnf
 cases B with
 | nil =>
  rw [List.length_nil] at hAB
  rw [joinL] at hr
  have hcat:joinL S.length 0 S=some (cat A):=by rw [hr];simp
  have h0:tot []=0:=rfl
  refine sN ?_
  by_cases hln:l=[]
  . subst hln
    have hl0:S.length=0:=hl
    have:A=[]:=List.eq_nil_of_length_eq_zero (by omega)
    subst this
    refine zak [(0,some 901)] rfl rfl trivial rfl (zwl ?_) ⟨⟨rfl,.inl ⟨901,rfl,rfl⟩⟩,trivial⟩
    rw [List.length_map,hl0];rfl
  . have:=List.length_pos_iff.2 hln
    have hjv:join l=some (cat A):=by rw [hj,if_neg hln,hcat]
    rw [hjv]
    refine zak [(0,some 901)] rfl rfl trivial rfl (zwl ?_) ⟨⟨rfl,.inl ⟨901,rfl,rfl⟩⟩,trivial⟩
    simp;omega
 | cons p B =>
  rw [List.length_cons] at hAB
  rw [zdp] at htA
  rw [joinL] at hr
  have hca:=yuj A
  have hln:l ≠ []:=fun h=>by subst h;have hl0:S.length=0:=hl;omega
  rw [if_neg hln] at hj
  refine sT ?_
  refine sO ?_
  refine zah h (by simp) ?_;conv=>whnf
  have e:((A.length:Int) == ((S.map Piece.row).length:Int) - 1)=decide (A.length+1=S.length):=by
   rw [List.length_map,Bool.eq_iff_iff];simp;omega
  by_cases c1:p.chunk.part=(A.length:Int)
  . refine zab (by simp [c1]) ?_;conv=>whnf
    refine sF ?_
    by_cases c2:p.chunk.last=decide (A.length+1=S.length)
    . rw [if_pos ⟨c1,c2⟩] at hr
      refine zab (by rw [e,c2];simp) ?_;conv=>whnf
      try (refine hcut.go ?_;conv=>whnf)
      refine zaa (c:=(((cat A).map bRow).length+(p.chunk.data.map bRow).length) * 1 <= 140737488355328) (by simp;omega) ?_;conv=>whnf
      try (refine hcut.go ?_;conv=>whnf)
      refine sF ?_
      refine ⟨⟨(A++[p],B),by rw [h];simp,by dsimp only;rw [hr,Option.map_map,List.length_append,List.length_singleton];congr 1;funext x;simp [ygs]⟩,(hle_X [(900,some 900),(901,some 39)] (by repeat' (first | exact z0 | refine z1 ?_ | refine ⟨?_,?_⟩ | ((exact zan (by rw [ygs];simp))) | exact z2))),by simp⟩
    . rw [if_neg fun h=>c2 h.2] at hr
      have hjv:join l=none:=by rw [hj,hr];rfl
      refine zac (by rw [e];cases hp:p.chunk.last <;> cases hd:decide (A.length+1=S.length) <;> simp_all) ?_;conv=>whnf
      exact yy44
  . rw [if_neg fun h=>c1 h.1] at hr
    have hjv:join l=none:=by rw [hj,hr];rfl
    refine zac (by simpa using c1) ?_;conv=>whnf
    exact yy44
def Found (k:Nat) (a:List Piece) (z:Int):Prop:=(a.filter (at_ k)=[] /\ z=-1) \/ ∃ a1 p a2,a=a1++p :: a2 /\ z=(a1.length:Nat) /\ a.filter (at_ k)=[p]
theorem yjg (l:List Piece) (hb:l.length < 2 ^ 22) (ht:tot l < 2 ^ 22) :
 FunOK Tryz.prog 193 [pieces l] zad (.tup [.own 0,hbool (join l).isSome]) (lk .free [(0,.live (.row 5 1 (((join l).getD []).map bRow)))]):=by
 refine zal mixed Tryz.func193 (by decide) [] (fun _=>.inl rfl) ?_
 have hj:join l=if l=[] then none else zfm l l.length 0 l.length:=by rw [join,rj_eq]
 conv=>whnf
 refine ⟨{ x:Nat × Nat × List UInt8 // x.1+x.2.1=l.length /\ zfm l l.length 0 l.length=(zfm l l.length x.1 x.2.1).map (x.2.2++·) /\ x.2.2.length <= x.1 * 4194304 },fun | ⟨(k,m,acc),_⟩=>hs 59 [(0,pieces l),(4,.own 900),(10,i64 l.length),(11,i64 k)] [(900,.live (.row 5 1 (acc.map bRow)))],fun x=>x.1.2.1,⟨(0,l.length,[]),by simp,by simp,by simp⟩,?_,?_⟩
 . exact (hle_Q [(900,none)])
 rintro ⟨⟨k,m,acc⟩,h1,h2,h3⟩
 dsimp only at h1 h2 h3
 conv=>whnf
 cases m with
 | zero =>
  rw [zfm] at h2
  refine sN ?_
  by_cases hln:l=[]
  . subst hln
    have:acc=[]:=List.eq_nil_of_length_eq_zero (by have:k=0:=h1;omega)
    subst this
    refine zak [(0,some 900)] rfl rfl trivial rfl (zwl ?_) ⟨⟨rfl,.inl ⟨900,rfl,rfl⟩⟩,trivial⟩
    rfl
  . have:=List.length_pos_iff.2 hln
    have hjv:join l=some acc:=by rw [hj,if_neg hln,h2];simp
    rw [hjv]
    refine zak [(0,some 900)] rfl rfl trivial rfl (zwl ?_) ⟨⟨rfl,.inl ⟨900,rfl,rfl⟩⟩,trivial⟩
    simp;omega
 | succ m =>
  have hln:l ≠ []:=fun h=>by subst h;have h1:k+(m+1)=0:=h1;omega
  rw [if_neg hln] at hj
  rw [zfm] at h2
  refine sT ?_
  refine ⟨{ x:(List Piece × List Piece) × Int // l=x.1.1++x.1.2 /\ Found k x.1.1 x.2 },fun | ⟨((a,b),z),_⟩=>hs 59 [(0,pieces l),(4,.own 900),(5,i64 k),(6,i64 z),(10,i64 l.length),(11,i64 k),(14,pieces l),(15,i64 l.length),(16,i64 a.length)] [(900,.live (.row 5 1 (acc.map bRow)))],fun x=>x.1.1.2.length,⟨(([],l),-1),rfl,.inl ⟨rfl,rfl⟩⟩,?_,?_⟩
  . exact (hle_Q [(900,some 900)])
  rintro ⟨⟨⟨a,b⟩,z⟩,g1,g2⟩
  dsimp only at g1 g2
  have hl:l.length=a.length+b.length:=by rw [g1];simp
  conv=>whnf
  cases b with
  | cons p b =>
   rw [List.length_cons] at hl
   refine sT ?_
   refine zah g1 (by simp) ?_;conv=>whnf
   by_cases c:p.chunk.part=(k:Int)
   . have hat:at_ k p=true:=by simpa [at_] using c
     refine zac (by simpa using c) ?_;conv=>whnf
     try (refine hcut.go ?_;conv=>whnf)
     rcases g2 with ⟨f1,rfl⟩ | ⟨a1,q,a2,f1,rfl,f2⟩
     . conv=>whnf
       try (refine hcut.go ?_;conv=>whnf)
       refine sF ?_
       exact ⟨⟨((a++[p],b),(a.length:Nat)),by rw [g1];simp,.inr ⟨a,p,[],by simp,rfl,by rw [List.filter_append,f1,List.filter_cons,if_pos hat];rfl⟩⟩,(hle_Q [(900,some 900)]),by simp⟩
     . have hjv:join l=none:=by
        rw [hj,h2,g1,List.filter_append,f2,List.filter_cons,if_pos hat];rfl
       conv=>whnf
       exact yy44
   . have hat:¬ at_ k p=true:=by simpa [at_] using c
     refine zab (by simpa using c) ?_;conv=>whnf
     try (refine hcut.go ?_;conv=>whnf)
     refine sF ?_
     refine ⟨⟨((a++[p],b),z),by rw [g1];simp,?_⟩,(hle_Q [(900,some 900)]),by simp⟩
     rcases g2 with ⟨f1,f0⟩ | ⟨a1,q,a2,f1,f0,f2⟩
     . exact .inl ⟨by rw [List.filter_append,f1,List.filter_cons,if_neg hat];rfl,f0⟩
     . exact .inr ⟨a1,q,a2++[p],by rw [f1];simp,f0,by rw [List.filter_append,f2,List.filter_cons,if_neg hat];rfl⟩
  | nil =>
   rw [List.length_nil] at hl
   rw [List.append_nil] at g1
   refine sN ?_
   rcases g2 with ⟨f1,rfl⟩ | ⟨a1,q,a2,f1,rfl,f2⟩
   . have hjv:join l=none:=by rw [hj,h2,g1,f1];rfl
     conv=>whnf
     exact yy44
   . have hq:q.chunk.data.length <= tot l:=ynu (by rw [g1,f1];simp)
     have e:((k:Int) == ((l.map Piece.row).length:Int) - 1)=decide (k+1=l.length):=by
      rw [List.length_map,Bool.eq_iff_iff];simp;omega
     rw [g1,f2] at h2
     dsimp only at h2
     rw [<- g1] at h2
     conv=>whnf
     refine zah (show l=a1++q :: a2 by rw [g1,f1]) rfl ?_;conv=>whnf
     refine sF ?_
     by_cases c2:q.chunk.last=decide (k+1=l.length)
     . rw [if_pos c2] at h2
       refine zab (by rw [e,c2];simp) ?_;conv=>whnf
       try (refine hcut.go ?_;conv=>whnf)
       refine zah (show l=a1++q :: a2 by rw [g1,f1]) rfl ?_;conv=>whnf
       refine zaa (c:=((acc.map bRow).length+(q.chunk.data.map bRow).length) * 1 <= 140737488355328) (by simp;omega) ?_;conv=>whnf
       try (refine hcut.go ?_;conv=>whnf)
       refine sF ?_
       refine ⟨⟨(k+1,m,acc++q.chunk.data),by dsimp only;omega,by dsimp only;rw [h2,Option.map_map];congr 1;funext x;simp,by simp;omega⟩,(hle_X [(900,some 53)] (by repeat' (first | exact z0 | refine z1 ?_ | refine ⟨?_,?_⟩ | ((exact zan (by simp))) | exact z2))),by simp⟩
     . rw [if_neg c2] at h2
       have hjv:join l=none:=by rw [hj,h2];rfl
       refine zac (by rw [e];cases hp:q.chunk.last <;> cases hd:decide (k+1=l.length) <;> simp_all) ?_;conv=>whnf
       exact yy44
end Jn
end Go.HL
namespace Go.HL
namespace Ser
def rise:List Span -> Prop
 | []=>True
 | s :: r=>s.lo <= s.hi /\ -9223372036854775808 <= s.lo /\ s.hi <= 9223372036854775807 /\ (∀ t ∈ r,s.hi+1 < t.lo) /\ rise r
theorem zez:∀ {a b:List Span},rise (a++b) ↔ rise a /\ rise b /\ ∀ s ∈ a,∀ t ∈ b,s.hi+1 < t.lo
 | [],b=>by simp [rise]
 | s :: a,b=>by
  simp only [List.cons_append,rise,zez (a:=a) (b:=b),List.mem_append,List.mem_cons]
  constructor
  . rintro ⟨h1,h2,h3,h4,h5,h6,h7⟩
    exact ⟨⟨h1,h2,h3,fun t ht=>h4 t (.inl ht),h5⟩,h6,fun x hx t ht=>by rcases hx with rfl | hx;exact h4 t (.inr ht);exact h7 x hx t ht⟩
  . rintro ⟨⟨h1,h2,h3,h4,h5⟩,h6,h7⟩
    exact ⟨h1,h2,h3,fun t ht=>by rcases ht with ht | ht;exact h4 t ht;exact h7 s (.inl rfl) t ht,h5,h6,fun x hx t ht=>h7 x (.inr hx) t ht⟩
theorem zfa:∀ {l:List Span},rise l -> ∀ s ∈ l,s.lo <= s.hi /\ -9223372036854775808 <= s.lo /\ s.hi <= 9223372036854775807
 | s :: r,h,t,ht=>by
  rcases List.mem_cons.1 ht with rfl | ht
  . exact ⟨h.1,h.2.1,h.2.2.1⟩
  . exact zfa h.2.2.2.2 t ht
theorem ydj {l:List Span} {n:Int}:has l n=true ↔ ∃ s ∈ l,s.lo <= n /\ n <= s.hi:=by
 simp [has,List.any_eq_true]
theorem ynw {l:List Span} {n:Int}:has l n=false ↔ ∀ s ∈ l,¬ (s.lo <= n /\ n <= s.hi):=by
 rw [<- Bool.not_eq_true,ydj];simp
theorem zwm (a b:List Span) (n:Int):has (a++b) n=(has a n || has b n):=by simp [has]
theorem zos (s:Span) (b:List Span) (n:Int):has (s :: b) n=((decide (s.lo <= n) && decide (n <= s.hi)) || has b n):=by simp [has]
def lowB (n:Int) (s:Span):Bool:=decide (s.hi < n)
def below (l:List Span) (n:Int):List Span:=l.takeWhile (lowB n)
def above (l:List Span) (n:Int):List Span:=l.dropWhile (lowB n)
def cutL (n:Int) (a:List Span):List Span × Int:=match a.getLast? with
 | some s=>if s.hi=n - 1 then (a.dropLast,s.lo) else (a,n)
 | none=>(a,n)
def cutR (n:Int):List Span -> Int × List Span
 | t :: r=>if t.lo=n+1 then (t.hi,r) else (n,t :: r)
 | []=>(n,[])
def add (l:List Span) (n:Int):List Span :=
 if has l n then l else (cutL n (below l n)).1++⟨(cutL n (below l n)).2,(cutR n (above l n)).1⟩ :: (cutR n (above l n)).2
theorem split (l:List Span) (n:Int):l=below l n++above l n:=(List.takeWhile_append_dropWhile).symm
theorem zlv {l:List Span} {n:Int}:∀ s ∈ below l n,s.hi < n:=fun s hs=>by
 have:=List.all_eq_true.1 (List.all_takeWhile (p:=lowB n) (l:=l)) s hs
 simpa [lowB] using this
theorem zwn {l:List Span} {n:Int} (h:rise l) (hn:has l n=false):∀ s ∈ above l n,n < s.lo:=by
 intro s hs
 have hsp:=split l n
 have hr:rise (above l n):=by rw [hsp] at h;exact (zez.1 h).2.1
 have hno:∀ t ∈ above l n,¬ (t.lo <= n /\ n <= t.hi):=fun t ht=>ynw.1 hn t (by rw [hsp];exact List.mem_append_right _ ht)
 have hhd:∀ t r,above l n=t :: r -> ¬ t.hi < n:=by
  intro t r e hlt
  have:=List.head?_dropWhile_not (lowB n) l
  rw [show l.dropWhile (lowB n)=t :: r from e] at this
  simp [lowB] at this;omega
 cases ha:above l n with
 | nil=>rw [ha] at hs;simp at hs
 | cons t r =>
  have h1:=hhd t r ha
  have h2:=hno t (by rw [ha];simp)
  rw [ha] at hr hs
  have h3:=hr.1
  rcases List.mem_cons.1 hs with rfl | hs
  . omega
  . have:=hr.2.2.2.1 s hs;omega
theorem ynx {l:List Span} {n:Int} (h:rise l):∀ (i:Nat) (hi:i < l.length),l[i].hi < n ↔ i < (below l n).length:=by
 intro i hi
 have hsp:=split l n
 constructor
 . intro hlt
   apply Classical.byContradiction
   intro hge
   have hmem:l[i] ∈ above l n:=by
    have e:l[i]?=(above l n)[i - (below l n).length]?:=by
     conv=>lhs;rw [hsp]
     exact List.getElem?_append_right (by omega)
    rw [List.getElem?_eq_getElem hi] at e
    exact List.mem_of_getElem? e.symm
   have hr:rise (above l n):=by rw [hsp] at h;exact (zez.1 h).2.1
   cases ha:above l n with
   | nil=>rw [ha] at hmem;simp at hmem
   | cons t r =>
    have h1:¬ t.hi < n:=by
     exact yy131
    rw [ha] at hr hmem
    rcases List.mem_cons.1 hmem with e | hm
    . rw [e] at hlt;exact h1 hlt
    . have h4:=hr.2.2.2.1 _ hm
      have h5:=(zfa hr.2.2.2.2 _ hm).1
      have:=hr.1
      omega
 . intro hlt
   have e:l[i]?=(below l n)[i]?:=by
    conv=>lhs;rw [hsp]
    exact List.getElem?_append_left hlt
   rw [List.getElem?_eq_getElem hi] at e
   exact zlv _ (List.mem_of_getElem? e.symm)
theorem yny {a:List Span} {n:Int} (h:rise a) (hn:∀ s ∈ a,s.hi < n) :
 (cutL n a).2 <= n /\ (∀ s ∈ (cutL n a).1,s.hi+1 < (cutL n a).2) /\ rise (cutL n a).1 /\ (-9223372036854775808 <= n -> -9223372036854775808 <= (cutL n a).2) /\ ∀ m,(has (cutL n a).1 m || (decide ((cutL n a).2 <= m) && decide (m < n)))=has a m:=by
 rcases List.eq_nil_or_concat a with rfl | ⟨a',s,rfl⟩
 . simp [cutL,rise,has]
   intro m hm;exact of_decide_eq_true hm
 . rw [List.concat_eq_append] at h hn ⊢
   have hs:=hn s (by simp)
   have hr:=zez.1 h
   have h3:∀ x ∈ a',x.hi+1 < s.lo:=fun x hx=>hr.2.2 x hx s (by simp)
   have h4:=hr.2.1.1
   simp only [cutL,List.getLast?_concat]
   split
   . rename_i he
     simp only [List.dropLast_concat]
     refine ⟨by omega,h3,hr.1,fun _=>hr.2.1.2.1,fun m=>?_⟩
     rw [zwm,zos]
     have:decide (m < n)=decide (m <= s.hi):=by rw [decide_eq_decide];omega
     rw [this];simp [has]
   . rename_i he
     refine ⟨Int.le_refl _,fun x hx=>?_,h,fun h=>h,fun m=>?_⟩
     . rcases List.mem_append.1 hx with hx | hx
       . have:=h3 x hx;dsimp only;omega
       . rw [List.mem_singleton.1 hx];dsimp only;omega
     . have:(decide (n <= m) && decide (m < n))=false:=by simp <;> omega
       dsimp only
       rw [this,Bool.or_false]
theorem ynz {b:List Span} {n:Int} (h:rise b) (hn:∀ s ∈ b,n < s.lo) :
 n <= (cutR n b).1 /\ (∀ s ∈ (cutR n b).2,(cutR n b).1+1 < s.lo) /\ rise (cutR n b).2 /\ (n <= 9223372036854775807 -> (cutR n b).1 <= 9223372036854775807) /\ ∀ m,(has (cutR n b).2 m || (decide (n < m) && decide (m <= (cutR n b).1)))=has b m:=by
 cases b with
 | nil =>
  simp [cutR,rise,has]
  intro m hm;exact decide_eq_false (by omega)
 | cons t r =>
  have ht:=hn t (by simp)
  simp only [cutR]
  split
  . rename_i he
    refine ⟨by have:=h.1;dsimp only;omega,h.2.2.2.1,h.2.2.2.2,fun _=>h.2.2.1,fun m=>?_⟩
    rw [zos,Bool.or_comm]
    congr 2
    rw [decide_eq_decide];omega
  . rename_i he
    refine ⟨Int.le_refl _,fun x hx=>?_,h,fun h=>h,fun m=>?_⟩
    . rcases List.mem_cons.1 hx with rfl | hx
      . dsimp only;omega
      . have:=h.2.2.2.1 x hx;have:=h.1;dsimp only;omega
    . have:(decide (n < m) && decide (m <= n))=false:=by simp
      dsimp only
      rw [this,Bool.or_false]
theorem zwo {l:List Span} {n:Int} (h:rise l) (h1:-9223372036854775808 <= n) (h2:n <= 9223372036854775807):rise (add l n) /\ ∀ m,has (add l n) m=(has l m || decide (m=n)):=by
 unfold add
 cases hn:has l n with
 | true =>
  refine ⟨h,fun m=>?_⟩
  by_cases hm:m=n
  . subst hm;simp [hn]
  . simp [hm]
 | false =>
  simp only [Bool.false_eq_true,if_false]
  have hsp:=split l n
  have hab:=h
  rw [hsp] at hab
  obtain ⟨ra,rb,rab⟩:=zez.1 hab
  obtain ⟨a1,a2,a3,a4,a5⟩:=yny ra zlv
  obtain ⟨b1,b2,b3,b4,b5⟩:=ynz rb (zwn h hn)
  have a4:=a4 h1
  have b4:=b4 h2
  have b6:∀ s ∈ (cutR n (above l n)).2,n < s.lo:=fun s hs=>by have:=b2 s hs;omega
  refine ⟨zez.2 ⟨a3,⟨by dsimp only;omega,a4,b4,b2,b3⟩,fun s hs t ht=>?_⟩,fun m=>?_⟩
  . rcases List.mem_cons.1 ht with rfl | ht
    . exact a2 s hs
    . have:=a2 s hs;have:=b6 t ht;omega
  . have e:has l m=(has (below l n) m || has (above l n) m):=by rw [<- zwm,<- hsp]
    rw [zwm,zos,e,<- a5 m,<- b5 m]
    generalize has (cutL n (below l n)).1 m=A
    generalize has (cutR n (above l n)).2 m=B
    dsimp only
    rcases Int.lt_trichotomy m n with hlt | rfl | hgt
    . have e1:decide (m < n)=true:=by simpa using hlt
      have e2:decide (n < m)=false:=by simp;omega
      have e3:decide (m=n)=false:=by simp;omega
      have e4:decide (m <= (cutR n (above l n)).1)=true:=by simp;omega
      rw [e1,e2,e3,e4];simp [Bool.or_assoc,Bool.or_comm,Bool.or_left_comm]
    . have e4:decide (m <= (cutR m (above l m)).1)=true:=by simp;omega
      have e5:decide ((cutL m (below l m)).2 <= m)=true:=by simp;omega
      rw [e4,e5];simp
    . have e1:decide (m < n)=false:=by simp;omega
      have e2:decide (n < m)=true:=by simpa using hgt
      have e3:decide (m=n)=false:=by simp;omega
      have e4:decide ((cutL n (below l n)).2 <= m)=true:=by simp;omega
      rw [e1,e2,e3,e4];simp [Bool.or_assoc,Bool.or_comm,Bool.or_left_comm]
end Ser
namespace Ser
def cmp (n:Int) (s:Span):Int:=if s.hi < n then -1 else if s.lo > n then 1 else 0
theorem zwk (n:Int) (s:Span):FunOK Tryz.prog 196 [s.hv,i64 n] zad (i64 (cmp n s)) zad:=by
 refine zai mixed Tryz.func196 (by decide) ?_
 conv=>whnf
 refine zaf (fun c=>?_) (fun c=>?_)
 . have c:s.hi < n:=by simpa using c
   conv=>whnf
   rw [cmp,if_pos c]
 . have c:¬ s.hi < n:=by simpa using c
   conv=>whnf
   refine zaf (fun c2=>?_) (fun c2=>?_)
   . have c2:s.lo > n:=by simpa using c2
     conv=>whnf
     rw [cmp,if_neg c,if_pos c2]
   . have c2:¬ s.lo > n:=by simpa using c2
     conv=>whnf
     rw [cmp,if_neg c,if_neg c2]
theorem yvj {n:Int} {s:Span}:cmp n s < 0 ↔ s.hi < n:=by
 unfold cmp
 split
 . simp [*]
 . split <;> simp [*]
theorem found {l:List Span} {n:Int} (h:rise l):zql (cmp n) l (below l n).length=has l n:=by
 have hsp:=split l n
 have e:l[(below l n).length]?=(above l n)[0]?:=by
  conv=>lhs;arg 1;rw [hsp]
  rw [List.getElem?_append_right (Nat.le_refl _),Nat.sub_self]
 have e2:has l n=has (above l n) n:=by
  conv=>lhs;arg 1;rw [hsp]
  rw [zwm,ynw.2 fun s hs=>by have:=zlv s hs;omega,Bool.false_or]
 rw [zql,e,e2]
 cases ha:above l n with
 | nil=>rfl
 | cons t r =>
  have hr:rise (above l n):=by rw [hsp] at h;exact (zez.1 h).2.1
  rw [ha] at hr
  have h1:¬ t.hi < n:=by
   exact yy131
  have h2:has r n=false:=ynw.2 fun s hs=>by have:=hr.2.2.2.1 s hs;omega
  rw [zos,h2,Bool.or_false]
  show (cmp n t == 0)=_
  rw [cmp,if_neg h1]
  by_cases c:t.lo > n
  . rw [if_pos c,decide_eq_false (by omega)];rfl
  . rw [if_neg c,decide_eq_true (by omega),decide_eq_true (by omega)];rfl
theorem zdu (l:List Span) (hb:l.length < 2 ^ 40):FunOK Tryz.prog 150 [.p (.sl 2 (l.map Span.row))] zad (.own 0) (lk .free [(0,.live (.row 199 2 (l.map Span.row)))]):=by
 refine zal mixed Tryz.func150 (by decide) [] (fun _=>.inl rfl) ?_
 conv=>whnf
 intro b hn
 conv=>whnf
 refine zaf (fun c=>?_) (fun c=>?_)
 . conv=>whnf
   exact yy35
 . conv=>whnf
   refine zaa (c:=(([]:List (List PV)).length+(l.map Span.row).length) * 16 <= 140737488355328) (by simp;omega) ?_
   exact yy25
theorem zeg {α:Type} (l:List α):l=[] \/ ∃ a x,l=a++[x]:=by
 exact yy134
theorem zga (n:Int) (a:List Span) (s:Span):cutL n (a++[s])=if s.hi=n - 1 then (a,s.lo) else (a++[s],n):=by
 simp [cutL]
theorem zwp {α:Type} {t n:Nat} {f:α -> List PV} {a b:List α} {x y:α} {k:Nat} {r:List PV} (hk:k=a.length) (hr:f y=r) :
 HSlot.live (.row t n (((a++[x]++b).map f).set k r))=HSlot.live (.row t n ((a++[y]++b).map f)):=by
 rw [List.append_assoc,List.append_assoc];exact (zcw hk hr).symm
theorem ztq {α:Type} {t n:Nat} {f:α -> List PV} {a b:List α} (h:a=b):HSlot.live (.row t n (a.map f))=HSlot.live (.row t n (b.map f)):=by rw [h]
theorem yoa (A B:List Span) (n:Int) (hl:rise (A++B)) (hA:below (A++B) n=A) (hB:above (A++B) n=B) (hb:(A++B).length < 2 ^ 39) (h1:-9223372036854775808 <= n) (h2:n <= 9223372036854775807) :
 FunOK Tryz.prog 181 [spans (A++B),i64 n] zad (.own 0) (lk .free [(0,.live (.row 199 2 ((add (A++B) n).map Span.row)))]):=by
 refine zal mixed Tryz.func181 (by decide) [] (fun _=>.inl rfl) ?_
 have hlen:(A++B).length=A.length+B.length:=List.length_append
 have hf:=found (n:=n) hl
 rw [hA] at hf
 conv=>whnf
 (refine zao [(0,9)]  ?_;(conv=>whnf);refine dO (zdu (A++B) (by omega)) ?_)
 (refine cZ ?_;refine dL (ytz (zwk n) (A++B) A.length (by omega) (fun i h=>by rw [yvj,ynx hl i h,hA]) (by omega)) ?_)
 rw [hf]
 cases hn:has (A++B) n with
 | true =>
  have ha:add (A++B) n=A++B:=by rw [add,hn];rfl
  rw [ha]
  conv=>whnf
  refine zak [(0,some 9)] rfl rfl trivial rfl rfl ⟨⟨rfl,.inl ⟨9,rfl,rfl⟩⟩,trivial⟩
 | false =>
  have ha:add (A++B) n=(cutL n A).1++⟨(cutL n A).2,(cutR n B).1⟩ :: (cutR n B).2:=by rw [add,hn,hA,hB];rfl
  rw [ha]
  conv=>whnf
  have hAl:A.length < 2 ^ 39:=by omega
  have hlow:∀ s ∈ A,s.hi < n:=by have:=zlv (l:=A++B) (n:=n);rwa [hA] at this
  have habv:∀ s ∈ B,n < s.lo:=by have:=zwn hl hn;rwa [hB] at this
  (refine zae [] [(1000,9),(1001,23)] [(0,24)] ?_;(conv=>whnf);refine dG (ycy A B ⟨n,n⟩ _ rfl (by omega)) ?_ ⟨rfl,rfl,rfl,⟨⟨rfl,_,rfl,.inl ⟨rfl,rfl⟩⟩,⟨⟨rfl,_,rfl,.inl ⟨rfl,rfl⟩⟩,trivial⟩⟩,⟨⟨rfl,rfl⟩,trivial⟩,rfl,rfl,rfl⟩)
  cases B with
  | nil =>
   refine zbc (z':=((A.length+1:Nat):Int)) (by show W ((A.length:Int)+1)=_;rw [W_fit (by omega) (by omega)];push_cast;rfl) ?_;conv=>whnf
   refine sN ?_
   have hR:cutR n []=(n,[]):=rfl
   rw [hR]
   rcases zeg A with rfl | ⟨A',s,rfl⟩
   . conv=>whnf
     try (refine hcut.go ?_;conv=>whnf)
     exact yy84
   . have hs:s.hi < n:=hlow s (by simp)
     have hsl:(A'++[s]).length=A'.length+1:=by simp
     have hs2:=zfa hl s (by simp)
     refine sT ?_
     refine zbc (z':=((A'.length:Nat):Int)) (by show W (((A'++[s]).length:Int) - 1)=_;rw [W_fit (by omega) (by omega)];omega) ?_;conv=>whnf
     refine sOm ?_
     refine zah (show A'++[s]++⟨n,n⟩ :: []=A'++s :: ⟨n,n⟩ :: [] by simp) rfl ?_;conv=>whnf
     refine zam (z:=n - 1) (W_fit (by omega) (by omega)) ?_;conv=>whnf
     by_cases he:s.hi=n - 1
     . refine sT ?_
       refine zbc (z':=((A'.length:Nat):Int)) (by show W (((A'++[s]).length:Int) - 1)=_;rw [W_fit (by omega) (by omega)];omega) ?_;conv=>whnf
       refine sOm ?_
       refine zah (show A'++[s]++⟨n,n⟩ :: []=(A'++[s])++⟨n,n⟩ :: [] from rfl) rfl ?_;conv=>whnf
       refine sOm ?_
       refine zah (show A'++[s]++⟨n,n⟩ :: []=A'++s :: ⟨n,n⟩ :: [] by simp) (by simp) ?_;conv=>whnf
       refine zbc (z':=((A'.length+2:Nat):Int)) (by show W (((A'++[s]).length:Int)+1)=_;rw [W_fit (by omega) (by omega)];omega) ?_;conv=>whnf
       refine zae [] [(1000,24)] [(0,84)] ?_;conv=>whnf
       refine ⟨_,_,_,_,zgn (A'++[⟨s.lo,n⟩]) ([]) ⟨n,n⟩ _ _ (by simp) (by simp;omega) (by simp at hAl hb ⊢;omega),⟨rfl,rfl,rfl,⟨⟨rfl,_,rfl,.inl ⟨rfl,?_⟩⟩,trivial⟩,⟨⟨rfl,rfl⟩,trivial⟩,rfl,rfl,rfl⟩,?_⟩
       . exact zwp (f:=Span.row) (a:=A') (b:=⟨n,n⟩ :: []) (x:=s) (y:=⟨s.lo,n⟩) (by simp) rfl
       exact yy70
     . refine sN ?_
       rw [zga,if_neg he]
       exact yy84
  | cons x B =>
   have hx:=habv x (by simp)
   have hx2:=zfa hl x (by simp)
   have hbl:(x :: B).length=B.length+1:=rfl
   refine zbc (z':=((A.length+1:Nat):Int)) (by show W ((A.length:Int)+1)=_;rw [W_fit (by omega) (by omega)];push_cast;rfl) ?_;conv=>whnf
   refine sT ?_
   refine zbc (z':=((A.length+1:Nat):Int)) (by show W ((A.length:Int)+1)=_;rw [W_fit (by omega) (by omega)];push_cast;rfl) ?_;conv=>whnf
   refine sOm ?_
   refine zah (show A++⟨n,n⟩ :: x :: B=(A++[⟨n,n⟩])++x :: B by simp) (by simp) ?_;conv=>whnf
   refine zam (z:=n+1) (W_fit (by omega) (by omega)) ?_;conv=>whnf
   by_cases hr:x.lo=n+1
   . refine sT ?_
     have hR:cutR n (x :: B)=(x.hi,B):=by simp [cutR,hr]
     rw [hR]
     refine zbc (z':=((A.length+1:Nat):Int)) (by show W ((A.length:Int)+1)=_;rw [W_fit (by omega) (by omega)];push_cast;rfl) ?_;conv=>whnf
     refine sOm ?_
     refine zah (show A++⟨n,n⟩ :: x :: B=(A++[⟨n,n⟩])++x :: B by simp) (by simp) ?_;conv=>whnf
     refine sOm ?_
     refine zah (show A++⟨n,n⟩ :: x :: B=A++⟨n,n⟩ :: x :: B from rfl) (by simp) ?_;conv=>whnf
     refine zbc (z':=((A.length+1:Nat):Int)) (by show W ((A.length:Int)+1)=_;rw [W_fit (by omega) (by omega)];push_cast;rfl) ?_;conv=>whnf
     refine zbc (z':=((A.length+2:Nat):Int)) (by show W ((A.length:Int)+2)=_;rw [W_fit (by omega) (by omega)];push_cast;rfl) ?_;conv=>whnf
     refine zae [] [(1000,24)] [(0,56)] ?_;conv=>whnf
     refine ⟨_,_,_,_,ycx (out:=A++⟨n,x.hi⟩ :: B) (A++[⟨n,x.hi⟩]) B x _ _ rfl (by simp) (by simp) (by simp;omega) (by simp at hAl hb ⊢;omega),⟨rfl,rfl,rfl,⟨⟨rfl,_,rfl,.inl ⟨rfl,?_⟩⟩,trivial⟩,⟨⟨rfl,rfl⟩,trivial⟩,rfl,rfl,rfl⟩,?_⟩
     . refine (zcw (f:=Span.row) (a:=A) (b:=x :: B) (x:=⟨n,n⟩) (y:=⟨n,x.hi⟩) (by simp) rfl).symm.trans (ztq (by simp))
     conv=>whnf
     try (refine hcut.go ?_;conv=>whnf)
     rcases zeg A with rfl | ⟨A',s,rfl⟩
     . conv=>whnf
       try (refine hcut.go ?_;conv=>whnf)
       refine zak [(0,some 56)] rfl rfl trivial rfl rfl ⟨⟨rfl,.inl ⟨56,rfl,rfl⟩⟩,trivial⟩
     . have hs:s.hi < n:=hlow s (by simp)
       have hsl:(A'++[s]).length=A'.length+1:=by simp
       have hs2:=zfa hl s (by simp)
       refine sT ?_
       refine zbc (z':=((A'.length:Nat):Int)) (by show W (((A'++[s]).length:Int) - 1)=_;rw [W_fit (by omega) (by omega)];omega) ?_;conv=>whnf
       refine sOm ?_
       refine zah (show A'++[s]++⟨n,x.hi⟩ :: B=A'++s :: ⟨n,x.hi⟩ :: B by simp) rfl ?_;conv=>whnf
       refine zam (z:=n - 1) (W_fit (by omega) (by omega)) ?_;conv=>whnf
       by_cases he:s.hi=n - 1
       . refine sT ?_
         refine zbc (z':=((A'.length:Nat):Int)) (by show W (((A'++[s]).length:Int) - 1)=_;rw [W_fit (by omega) (by omega)];omega) ?_;conv=>whnf
         refine sOm ?_
         refine zah (show A'++[s]++⟨n,x.hi⟩ :: B=(A'++[s])++⟨n,x.hi⟩ :: B from rfl) rfl ?_;conv=>whnf
         refine sOm ?_
         refine zah (show A'++[s]++⟨n,x.hi⟩ :: B=A'++s :: ⟨n,x.hi⟩ :: B by simp) (by simp) ?_;conv=>whnf
         refine zbc (z':=((A'.length+2:Nat):Int)) (by show W (((A'++[s]).length:Int)+1)=_;rw [W_fit (by omega) (by omega)];omega) ?_;conv=>whnf
         refine zae [] [(1000,56)] [(0,84)] ?_;conv=>whnf
         refine ⟨_,_,_,_,zgn (A'++[⟨s.lo,x.hi⟩]) (B) ⟨n,x.hi⟩ _ _ (by simp) (by simp;omega) (by simp at hAl hb ⊢;omega),⟨rfl,rfl,rfl,⟨⟨rfl,_,rfl,.inl ⟨rfl,?_⟩⟩,trivial⟩,⟨⟨rfl,rfl⟩,trivial⟩,rfl,rfl,rfl⟩,?_⟩
         . exact zwp (f:=Span.row) (a:=A') (b:=⟨n,x.hi⟩ :: B) (x:=s) (y:=⟨s.lo,x.hi⟩) (by simp) rfl
         exact yy70
       . refine sN ?_
         rw [zga,if_neg he]
         refine zak [(0,some 56)] rfl rfl trivial rfl rfl ⟨⟨rfl,.inl ⟨56,rfl,rfl⟩⟩,trivial⟩
   . refine sN ?_
     have hR:cutR n (x :: B)=(n,x :: B):=by simp [cutR,hr]
     rw [hR]
     rcases zeg A with rfl | ⟨A',s,rfl⟩
     . conv=>whnf
       try (refine hcut.go ?_;conv=>whnf)
       exact yy84
     . have hs:s.hi < n:=hlow s (by simp)
       have hsl:(A'++[s]).length=A'.length+1:=by simp
       have hs2:=zfa hl s (by simp)
       refine sT ?_
       refine zbc (z':=((A'.length:Nat):Int)) (by show W (((A'++[s]).length:Int) - 1)=_;rw [W_fit (by omega) (by omega)];omega) ?_;conv=>whnf
       refine sOm ?_
       refine zah (show A'++[s]++⟨n,n⟩ :: x :: B=A'++s :: ⟨n,n⟩ :: x :: B by simp) rfl ?_;conv=>whnf
       refine zam (z:=n - 1) (W_fit (by omega) (by omega)) ?_;conv=>whnf
       by_cases he:s.hi=n - 1
       . refine sT ?_
         refine zbc (z':=((A'.length:Nat):Int)) (by show W (((A'++[s]).length:Int) - 1)=_;rw [W_fit (by omega) (by omega)];omega) ?_;conv=>whnf
         refine sOm ?_
         refine zah (show A'++[s]++⟨n,n⟩ :: x :: B=(A'++[s])++⟨n,n⟩ :: x :: B from rfl) rfl ?_;conv=>whnf
         refine sOm ?_
         refine zah (show A'++[s]++⟨n,n⟩ :: x :: B=A'++s :: ⟨n,n⟩ :: x :: B by simp) (by simp) ?_;conv=>whnf
         refine zbc (z':=((A'.length+2:Nat):Int)) (by show W (((A'++[s]).length:Int)+1)=_;rw [W_fit (by omega) (by omega)];omega) ?_;conv=>whnf
         refine zae [] [(1000,24)] [(0,84)] ?_;conv=>whnf
         refine ⟨_,_,_,_,zgn (A'++[⟨s.lo,n⟩]) (x :: B) ⟨n,n⟩ _ _ (by simp) (by simp;omega) (by simp at hAl hb ⊢;omega),⟨rfl,rfl,rfl,⟨⟨rfl,_,rfl,.inl ⟨rfl,?_⟩⟩,trivial⟩,⟨⟨rfl,rfl⟩,trivial⟩,rfl,rfl,rfl⟩,?_⟩
         . exact zwp (f:=Span.row) (a:=A') (b:=⟨n,n⟩ :: x :: B) (x:=s) (y:=⟨s.lo,n⟩) (by simp) rfl
         exact yy70
       . refine sN ?_
         rw [zga,if_neg he]
         exact yy84
end Ser
namespace Ser
theorem yri (l:List Span) (n:Int) (hl:rise l) (hb:l.length < 2 ^ 39) (h1:-9223372036854775808 <= n) (h2:n <= 9223372036854775807) :
 FunOK Tryz.prog 181 [spans l,i64 n] zad (.own 0) (lk .free [(0,.live (.row 199 2 ((add l n).map Span.row)))]):=by
 have hsp:=split l n
 have h:=yoa (below l n) (above l n) n (by rwa [<- hsp]) (by rw [<- hsp]) (by rw [<- hsp]) (by rwa [<- hsp]) h1 h2
 rwa [<- hsp] at h
def up:List Span -> Int -> Int × List Span
 | [],n=>(n,[])
 | s :: r,n=>if s.lo <= n+1 then up r (if s.hi > n then s.hi else n) else (n,s :: r)
def wnd:List Span -> List Span -> HV
 | [],_=>.own 900
 | _ :: a,b=>.osl 900 2 (a.length+1) b.length
theorem ygt {α:Type} {f:α -> List PV} {l a b c:List α} {o n:Nat} {K:List (List PV) -> Prop} (h:l=a++b++c) (ho:o=a.length) (hn:n=b.length) (hk:K (b.map f)):hsub (l.map f) o n K:=by
 exact yy132
theorem ysq {i s o o' n n':Nat} (ho:o=o') (hn:n=n'):HV.osl i s o n=.osl i s o' n':=by rw [ho,hn]
theorem yob (l:List Span) (n:Int) (hl:∀ s ∈ l,s.hi <= 1099511627776) (hb:l.length < 2 ^ 39) (h1:-1099511627776 <= n) (h2:n <= 1099511627776) :
 FunOK Tryz.prog 180 [spans l,i64 n] zad (.tup [i64 (up l n).1,.own 0]) (lk .free [(0,.live (.row 199 2 ((up l n).2.map Span.row)))]):=by
 refine zal mixed Tryz.func180 (by decide) [] (fun _=>.inl rfl) ?_
 generalize hR:up l n=R
 conv=>whnf
 (refine zao [(0,8)]  ?_;(conv=>whnf);refine dO (zdu l (by omega)) ?_)
 refine ⟨{ x:(List Span × List Span) × Int // l=x.1.1++x.1.2 /\ R=up x.1.2 x.2 /\ -1099511627776 <= x.2 /\ x.2 <= 1099511627776 },fun | ⟨((a,b),m),_⟩=>hs 32 [(1,i64 m),(6,wnd a b)] [(900,.live (.row 199 2 (l.map Span.row)))],fun x=>x.1.1.2.length,⟨(([],l),n),rfl,hR.symm,h1,h2⟩,?_,?_⟩
 . exact (hle_Q [(900,some 8)])
 rintro ⟨⟨⟨a,b⟩,m⟩,h,hu,hm1,hm2⟩
 dsimp only at h hu hm1 hm2
 have hlen:l.length=a.length+b.length:=by rw [h];simp
 have hlm:(l.map Span.row).length=l.length:=by simp
 cases a with
 | nil =>
  rw [List.nil_append] at h
  rw [List.length_nil,Nat.zero_add] at hlen
  conv=>whnf
  cases b with
  | nil =>
   rw [List.length_nil] at hlen
   refine sN ?_
   (refine zao [(0,31)]  ?_;(conv=>whnf);refine dO (zdu l (by omega)) ?_)
   exact yy137
  | cons s r =>
   rw [List.length_cons] at hlen
   have hs:=hl s (by rw [h];simp)
   refine sT ?_
   refine zaa (by omega) ?_;conv=>whnf
   refine zah (a:=[]) h rfl ?_;conv=>whnf
   refine sF ?_
   by_cases c:s.lo <= m+1
   . refine sT ?_
     refine zaa (by omega) ?_;conv=>whnf
     refine zah (a:=[]) h rfl ?_;conv=>whnf
     refine zaa (by omega) ?_;conv=>whnf
     refine ⟨⟨(([s],r),if s.hi > m then s.hi else m),h,by dsimp only;rw [hu,up,if_pos c],by dsimp only;split <;> omega,by dsimp only;split <;> omega⟩,(hle_X [(900,some 900)] (by repeat' (first | exact z0 | refine z1 ?_ | refine ⟨?_,?_⟩ | ((exact ysq (by simp) (by omega))) | exact z2))),by simp⟩
   . refine sN ?_
     (refine zao [(0,31)]  ?_;(conv=>whnf);refine dO (zdu l (by omega)) ?_)
     rw [show up (s :: r) m=(m,s :: r) by simp [up,c]] at hu
     exact yy137
 | cons t a =>
  rw [List.length_cons] at hlen
  have hal:(a.length:Int)+1=((t :: a).length:Nat):=by simp
  conv=>whnf
  cases b with
  | nil =>
   rw [List.length_nil] at hlen
   conv=>whnf
   try (refine hcut.go ?_;conv=>whnf)
   refine zao [(0,31)] ?_;conv=>whnf
   refine ygt (a:=t :: a) (b:=[]) (c:=[]) (by rw [h];simp) rfl rfl ?_
   conv=>whnf
   refine ⟨_,_,zdu [] (by simp),⟨⟨⟨rfl,rfl⟩,trivial⟩,rfl,rfl,rfl⟩,?_⟩
   conv=>whnf
   subst hu
   refine zak [(0,some 31)] rfl rfl trivial rfl rfl ⟨⟨rfl,.inl ⟨31,rfl,rfl⟩⟩,trivial⟩
  | cons s r =>
   rw [List.length_cons] at hlen
   have hs:=hl s (by rw [h];simp)
   have hrl:(s :: r).length=r.length+1:=rfl
   refine sT ?_
   refine zaa (by omega) ?_;conv=>whnf
   refine zah (a:=t :: a) h (by simp) ?_;conv=>whnf
   refine sF ?_
   by_cases c:s.lo <= m+1
   . refine sT ?_
     refine zaa (by omega) ?_;conv=>whnf
     refine zah (a:=t :: a) h (by simp) ?_;conv=>whnf
     refine zaa (by omega) ?_;conv=>whnf
     refine ⟨⟨((t :: (a++[s]),r),if s.hi > m then s.hi else m),by rw [h];simp,by dsimp only;rw [hu,up,if_pos c],by dsimp only;split <;> omega,by dsimp only;split <;> omega⟩,(hle_X [(900,some 900)] (by repeat' (first | exact z0 | refine z1 ?_ | refine ⟨?_,?_⟩ | ((exact ysq (by simp) (by omega))) | exact z2))),by simp⟩
   . refine sN ?_
     refine zao [(0,31)] ?_;conv=>whnf
     refine ygt (a:=t :: a) (b:=s :: r) (c:=[]) (by rw [h];simp) rfl rfl ?_
     conv=>whnf
     refine ⟨_,_,zdu (s :: r) (by omega),⟨⟨⟨rfl,rfl⟩,trivial⟩,rfl,rfl,rfl⟩,?_⟩
     conv=>whnf
     rw [show up (s :: r) m=(m,s :: r) by simp [up,c]] at hu
     subst hu
     refine zak [(0,some 31)] rfl rfl trivial rfl rfl ⟨⟨rfl,.inl ⟨31,rfl,rfl⟩⟩,trivial⟩
def Tail (R:Int × List Span) (b:List Span) (m:Int) (o:List Span):Prop:=(o=[] /\ R=up b m) \/ (R=(m,o++b) /\ ∀ s ∈ b,m+1 < s.lo)
theorem yrj (l:List Span) (n:Int) (hr:rise l) (hl:∀ s ∈ l,s.hi <= 1099511627776) (hb:l.length < 2 ^ 39) (h1:-1099511627776 <= n) (h2:n <= 1099511627776) :
 FunOK Tryz.prog 173 [spans l,i64 n] zad (.tup [i64 (up l n).1,.own 0]) (lk .free [(0,.live (.row 199 2 ((up l n).2.map Span.row)))]):=by
 refine zal mixed Tryz.func173 (by decide) [] (fun _=>.inl rfl) ?_
 generalize hR:up l n=R
 conv=>whnf
 refine ⟨{ x:(List Span × List Span) × Int × List Span // l=x.1.1++x.1.2 /\ Tail R x.1.2 x.2.1 x.2.2 /\ -1099511627776 <= x.2.1 /\ x.2.1 <= 1099511627776 /\ x.2.2.length <= x.1.1.length },fun | ⟨((a,b),m,o),_⟩=>hs 33 [(1,i64 m),(6,.own 900),(9,spans l),(10,i64 l.length),(11,i64 a.length)] [(900,.live (.row 199 2 (o.map Span.row)))],fun x=>x.1.1.2.length,⟨(([],l),n,[]),rfl,.inl ⟨rfl,hR.symm⟩,h1,h2,Nat.le_refl _⟩,?_,?_⟩
 . exact (hle_Q [(900,none)])
 rintro ⟨⟨⟨a,b⟩,m,o⟩,h,ht,hm1,hm2,ho⟩
 dsimp only at h ht hm1 hm2 ho
 have hlen:l.length=a.length+b.length:=by rw [h];simp
 conv=>whnf
 cases b with
 | nil =>
  rw [List.length_nil] at hlen
  refine sN ?_
  have hR2:R=(m,o):=by
   rcases ht with ⟨h1,h2⟩ | ⟨h1,h2⟩
   . rw [h2,h1];rfl
   . rw [h1,List.append_nil]
  subst hR2
  refine zak [(0,some 900)] rfl rfl trivial rfl rfl ⟨⟨rfl,.inl ⟨900,rfl,rfl⟩⟩,trivial⟩
 | cons s r =>
  rw [List.length_cons] at hlen
  have hs:=hl s (by rw [h];simp)
  have hrs:rise (s :: r):=by rw [h] at hr;exact (zez.1 hr).2.1
  refine sT ?_
  refine zah h rfl ?_;conv=>whnf
  refine sF ?_
  by_cases c:s.lo <= m+1
  . obtain ⟨rfl,htt⟩:o=[] /\ R=up r (if s.hi > m then s.hi else m):=by
     rcases ht with ⟨h1,h2⟩ | ⟨h1,h2⟩
     . exact ⟨h1,by rw [h2,up,if_pos c]⟩
     . have:=h2 s (by simp);omega
    refine sT ?_
    by_cases c2:s.hi > m
    . refine sT ?_
      refine sF ?_
      rw [if_pos c2] at htt
      exact ⟨⟨((a++[s],r),s.hi,[]),zag h,.inl ⟨rfl,htt⟩,by dsimp only;omega,hs,by simp⟩,(hle_Q [(900,some 900)]),by simp⟩
    . refine sN ?_
      refine sF ?_
      rw [if_neg c2] at htt
      exact ⟨⟨((a++[s],r),m,[]),zag h,.inl ⟨rfl,htt⟩,hm1,hm2,by simp⟩,(hle_Q [(900,some 900)]),by simp⟩
  . have ht2:Tail R r m (o++[s]):=by
     refine .inr ?_
     rcases ht with ⟨h1,h2⟩ | ⟨h1,h2⟩
     . rw [h2,h1,up,if_neg c]
       exact ⟨rfl,fun t ht=>by have:=hrs.1;have:=hrs.2.2.2.1 t ht;omega⟩
     . exact ⟨by rw [h1];simp,fun t ht=>h2 t (by simp [ht])⟩
    refine sN ?_
    refine zaa (c:=((o.map Span.row).length+1) * 16 <= 140737488355328) (by simp;omega) ?_;conv=>whnf
    refine sF ?_
    exact ⟨⟨((a++[s],r),m,o++[s]),zag h,ht2,hm1,hm2,by simp;omega⟩,(hle_X [(900,some 29)] (by repeat' (first | exact z0 | refine z1 ?_ | refine ⟨?_,?_⟩ | ((exact (zda (f:=Span.row) rfl).symm)) | exact z2))),by simp⟩
instance:DecidableEq Span:=fun a b=>decidable_of_iff (a.lo=b.lo /\ a.hi=b.hi) ⟨fun h=>by cases a;cases b;simp_all,fun h=>by rw [h];simp⟩
end Ser
namespace Ser
def p1 (n:Int):List Span -> Int × Int -> Int × Int
 | [],p=>p
 | s :: r,p=>p1 n r (if s.hi=n - 1 then (s.lo,p.2) else if s.lo=n+1 then (p.1,s.hi) else p)
def p2 (n lo hi:Int):List Span -> Bool -> List Span
 | [],put=>if put then [] else [⟨lo,hi⟩]
 | s :: r,put=>if s.hi=n - 1 \/ s.lo=n+1 then p2 n lo hi r put else if put=false /\ s.lo > n then ⟨lo,hi⟩ :: s :: p2 n lo hi r true else s :: p2 n lo hi r put
theorem yal {n:Int} {r:List Span}:∀ {a:List Span} {p:Int × Int},(∀ s ∈ a,s.hi < n - 1 /\ s.lo <= s.hi) -> p1 n (a++r) p=p1 n r p
 | [],p,_=>rfl
 | s :: a,p,h=>by
  have h1:=h s (by simp)
  rw [List.cons_append,p1,if_neg (by omega),if_neg (by omega)]
  exact yal fun s hs=>h s (by simp [hs])
theorem zqy {n:Int}:∀ {a:List Span} {p:Int × Int},(∀ s ∈ a,n+1 < s.lo /\ s.lo <= s.hi) -> p1 n a p=p
 | [],p,_=>rfl
 | s :: a,p,h=>by
  have h1:=h s (by simp)
  rw [p1,if_neg (by omega),if_neg (by omega)]
  exact zqy fun s hs=>h s (by simp [hs])
theorem yam {n lo hi:Int} {r:List Span}:∀ {a:List Span},(∀ s ∈ a,s.hi < n - 1 /\ s.lo <= s.hi) -> p2 n lo hi (a++r) false=a++p2 n lo hi r false
 | [],_=>rfl
 | s :: a,h=>by
  have h1:=h s (by simp)
  rw [List.cons_append,p2,if_neg (by omega),if_neg (by omega),List.cons_append,yam fun s hs=>h s (by simp [hs])]
theorem ysr {n lo hi:Int}:∀ {a:List Span},(∀ s ∈ a,n+1 < s.lo /\ s.lo <= s.hi) -> p2 n lo hi a true=a
 | [],_=>rfl
 | s :: a,h=>by
  have h1:=h s (by simp)
  rw [p2,if_neg (by omega),if_neg (by simp),ysr fun s hs=>h s (by simp [hs])]
theorem zwq {n lo hi:Int} {a:List Span} (h:∀ s ∈ a,n+1 < s.lo /\ s.lo <= s.hi):p2 n lo hi a false=⟨lo,hi⟩ :: a:=by
 cases a with
 | nil=>rfl
 | cons s a =>
  have h1:=h s (by simp)
  rw [p2,if_neg (by omega),if_pos ⟨rfl,by omega⟩,ysr fun s hs=>h s (by simp [hs])]
theorem yuk {l:List Span} {n:Int} (h:rise l) (hn:has l n=false):p2 n (p1 n l (n,n)).1 (p1 n l (n,n)).2 l false=add l n:=by
 have hsp:=split l n
 have hab:=h
 rw [hsp] at hab
 obtain ⟨ra,rb,rab⟩:=zez.1 hab
 have hlow:=zlv (l:=l) (n:=n)
 have habv:=zwn h hn
 have hadd:add l n=(cutL n (below l n)).1++⟨(cutL n (below l n)).2,(cutR n (above l n)).1⟩ :: (cutR n (above l n)).2:=by rw [add,hn];rfl
 rw [hadd]
 generalize below l n=A at *
 generalize above l n=B at *
 subst hsp
 have hA:∃ a:List Span,(∀ s ∈ a,s.hi < n - 1 /\ s.lo <= s.hi) /\ (A=a /\ cutL n A=(a,n) \/ ∃ s,A=a++[s] /\ s.hi=n - 1 /\ cutL n A=(a,s.lo)):=by
  rcases zeg A with rfl | ⟨a,s,rfl⟩
  . exact ⟨[],by simp,.inl ⟨rfl,rfl⟩⟩
  . obtain ⟨r1,r2,r3⟩:=zez.1 ra
    have hs:=hlow s (by simp)
    have hs2:=r2.1
    have hal:∀ t ∈ a,t.hi < n - 1 /\ t.lo <= t.hi:=fun t ht=>by
     have:=r3 t ht s (by simp);have:=(zfa r1 t ht).1;omega
    rw [zga]
    by_cases c:s.hi=n - 1
    . exact ⟨a,hal,.inr ⟨s,rfl,c,by rw [if_pos c]⟩⟩
    . refine ⟨a++[s],fun t ht=>?_,.inl ⟨rfl,by rw [if_neg c]⟩⟩
      rcases List.mem_append.1 ht with ht | ht
      . exact hal t ht
      . rw [List.mem_singleton.1 ht];omega
 have hB:∃ b:List Span,(∀ s ∈ b,n+1 < s.lo /\ s.lo <= s.hi) /\ (B=b /\ cutR n B=(n,b) \/ ∃ s,B=s :: b /\ s.lo=n+1 /\ s.lo <= s.hi /\ cutR n B=(s.hi,b)):=by
  cases B with
  | nil=>exact ⟨[],by simp,.inl ⟨rfl,rfl⟩⟩
  | cons s b =>
   have hs:=habv s (by simp)
   have hs2:=rb.1
   have hbl:∀ t ∈ b,n+1 < t.lo /\ t.lo <= t.hi:=fun t ht=>by
    have:=rb.2.2.2.1 t ht;have:=(zfa rb.2.2.2.2 t ht).1;omega
   by_cases c:s.lo=n+1
   . exact ⟨b,hbl,.inr ⟨s,rfl,c,hs2,by simp [cutR,c]⟩⟩
   . refine ⟨s :: b,fun t ht=>?_,.inl ⟨rfl,by simp [cutR,c]⟩⟩
     rcases List.mem_cons.1 ht with rfl | ht
     . omega
     . exact hbl t ht
 obtain ⟨a,ha,hA⟩:=hA
 obtain ⟨b,hb,hB⟩:=hB
 rcases hA with ⟨rfl,eA⟩ | ⟨s,rfl,es,eA⟩ <;> rcases hB with ⟨rfl,eB⟩ | ⟨t,rfl,et,et2,eB⟩ <;> rw [eA,eB]
 . rw [yal ha,zqy hb,yam ha,zwq hb]
 . rw [yal ha,p1,if_neg (by omega),if_pos et,zqy hb,yam ha,p2,if_pos (.inr et),zwq hb]
 . rw [List.append_assoc,yal ha,List.singleton_append,p1,if_pos es,zqy hb,yam ha,p2,if_pos (.inl es),zwq hb]
 . rw [List.append_assoc,yal ha,List.singleton_append,p1,if_pos es,p1,if_neg (by omega),if_pos et,zqy hb,yam ha,p2,if_pos (.inl es),p2,if_pos (.inr et),zwq hb]
theorem yoc (l:List Span) (n:Int) (hn:has l n=false) (hl:rise l) (hb:l.length < 2 ^ 39) (h1:-1099511627776 <= n) (h2:n <= 1099511627776) :
 FunOK Tryz.prog 174 [spans l,i64 n] zad (.own 0) (lk .free [(0,.live (.row 199 2 ((add l n).map Span.row)))]):=by
 refine zal mixed Tryz.func174 (by decide) [] (fun _=>.inl rfl) ?_
 conv=>whnf
 (refine cL ?_;refine dL (ycm l n (by omega)) ?_)
 rw [hn,<- yuk hl hn]
 generalize hP:p1 n l (n,n)=P
 generalize hR:p2 n P.1 P.2 l false=R
 conv=>whnf
 refine ⟨{ x:(List Span × List Span) × Int × Int // l=x.1.1++x.1.2 /\ p1 n x.1.2 x.2=P },fun | ⟨((a,b),lo,hi),_⟩=>hs 88 [(0,spans l),(1,i64 n),(5,i64 lo),(6,i64 hi),(7,.p (.v (.slice none 0 0))),(19,spans l),(20,i64 l.length),(21,i64 a.length)] [],fun x=>x.1.1.2.length,⟨(([],l),n,n),rfl,hP⟩,?_,?_⟩
 . exact (hle_Q [])
 rintro ⟨⟨⟨a,b⟩,lo,hi⟩,h,ht⟩
 dsimp only at h ht
 have hlen:l.length=a.length+b.length:=by rw [h];simp
 conv=>whnf
 cases b with
 | nil =>
  rw [List.length_nil] at hlen
  refine sN ?_
  rw [p1] at ht
  subst ht
  refine ⟨{ x:(List Span × List Span) × Bool × List Span // l=x.1.1++x.1.2 /\ R=x.2.2++p2 n lo hi x.1.2 x.2.1 /\ x.2.2.length <= 2 * x.1.1.length },fun | ⟨((a,b),put,o),_⟩=>hs 88 [(1,i64 n),(5,i64 lo),(6,i64 hi),(7,.own 900),(10,hbool put),(42,spans l),(43,i64 l.length),(44,i64 a.length)] [(900,.live (.row 199 2 (o.map Span.row)))],fun x=>x.1.1.2.length,⟨(([],l),false,[]),rfl,hR.symm,Nat.zero_le _⟩,?_,?_⟩
  . exact (hle_Q [(900,none)])
  clear h hlen
  rintro ⟨⟨⟨a,b⟩,put,o⟩,h,ht,ho⟩
  dsimp only at h ht ho
  have hlen:l.length=a.length+b.length:=by rw [h];simp
  conv=>whnf
  cases b with
  | nil =>
   rw [List.length_nil] at hlen
   refine sN ?_
   cases put with
   | true =>
    have hR2:R=o:=by rw [ht,p2,if_pos rfl,List.append_nil]
    conv=>whnf
    try (refine hcut.go ?_;conv=>whnf)
    subst hR2
    refine zak [(0,some 900)] rfl rfl trivial rfl rfl ⟨⟨rfl,.inl ⟨900,rfl,rfl⟩⟩,trivial⟩
   | false =>
    have hR2:R=o++[⟨lo,hi⟩]:=by rw [ht,p2,if_neg (by simp)]
    conv=>whnf
    try (refine hcut.go ?_;conv=>whnf)
    refine zaa (c:=((o.map Span.row).length+1) * 16 <= 140737488355328) (by simp;omega) ?_;conv=>whnf
    try (refine hcut.go ?_;conv=>whnf)
    subst hR2
    refine zak [(0,some 86)] rfl rfl trivial rfl rfl ⟨⟨rfl,.inl ⟨86,rfl,?_⟩⟩,trivial⟩
    exact zau (f:=Span.row) (x:=⟨lo,hi⟩) rfl rfl
  | cons s r =>
   rw [List.length_cons] at hlen
   rw [p2] at ht
   refine sT ?_
   refine zah h rfl ?_;conv=>whnf
   refine sF ?_
   by_cases c1:s.hi=n - 1
   . rw [if_pos (.inl c1)] at ht
     exact yy135
   refine sN ?_
   refine sF ?_
   by_cases c2:s.lo=n+1
   . rw [if_pos (.inr c2)] at ht
     exact yy135
   rw [if_neg (by simp [c1,c2])] at ht
   refine sN ?_
   by_cases c3:put=false /\ s.lo > n
   . rw [if_pos c3] at ht
     obtain ⟨rfl,c3⟩:=c3
     conv=>whnf
     try (refine hcut.go ?_;conv=>whnf)
     refine sT ?_
     refine zaa (c:=((o.map Span.row).length+1) * 16 <= 140737488355328) (by simp;omega) ?_;conv=>whnf
     try (refine hcut.go ?_;conv=>whnf)
     refine zaa (c:=((o.map Span.row++[[pi lo,pi hi]]).length+1) * 16 <= 140737488355328) (by simp;omega) ?_;conv=>whnf
     try (refine hcut.go ?_;conv=>whnf)
     refine sF ?_
     refine ⟨⟨((a++[s],r),true,o++[⟨lo,hi⟩,s]),zag h,by rw [‹R=o++⟨lo,hi⟩ :: s :: p2 n lo hi r true›];simp,by simp;omega⟩,(hle_X [(900,some 77)] (by repeat' (first | exact z0 | refine z1 ?_ | refine ⟨?_,?_⟩ | ((exact zan (by simp;rfl))) | exact z2))),by simp⟩
   . rw [if_neg c3] at ht
     cases put with
     | true =>
      conv=>whnf
      try (refine hcut.go ?_;conv=>whnf)
      refine zaa (c:=((o.map Span.row).length+1) * 16 <= 140737488355328) (by simp;omega) ?_;conv=>whnf
      try (refine hcut.go ?_;conv=>whnf)
      refine sF ?_
      refine ⟨⟨((a++[s],r),true,o++[s]),zag h,by rw [ht];simp,by simp;omega⟩,(hle_X [(900,some 77)] (by repeat' (first | exact z0 | refine z1 ?_ | refine ⟨?_,?_⟩ | ((exact (zda (f:=Span.row) rfl).symm)) | exact z2))),by simp⟩
     | false =>
      have c4:¬ s.lo > n:=fun h=>c3 ⟨rfl,h⟩
      conv=>whnf
      try (refine hcut.go ?_;conv=>whnf)
      refine sN ?_
      refine zaa (c:=((o.map Span.row).length+1) * 16 <= 140737488355328) (by simp;omega) ?_;conv=>whnf
      try (refine hcut.go ?_;conv=>whnf)
      refine sF ?_
      refine ⟨⟨((a++[s],r),false,o++[s]),zag h,by rw [ht];simp,by simp;omega⟩,(hle_X [(900,some 77)] (by repeat' (first | exact z0 | refine z1 ?_ | refine ⟨?_,?_⟩ | ((exact (zda (f:=Span.row) rfl).symm)) | exact z2))),by simp⟩
 | cons s r =>
  rw [List.length_cons] at hlen
  rw [p1] at ht
  refine sT ?_
  refine zah h rfl ?_;conv=>whnf
  refine sF ?_
  by_cases c1:s.hi=n - 1
  . rw [if_pos c1] at ht
    refine sT ?_
    refine sF ?_
    exact ⟨⟨((a++[s],r),s.lo,hi),zag h,ht⟩,(hle_Q []),by simp⟩
  . rw [if_neg c1] at ht
    refine sN ?_
    refine sF ?_
    by_cases c2:s.lo=n+1
    . rw [if_pos c2] at ht
      refine sT ?_
      refine sF ?_
      exact ⟨⟨((a++[s],r),lo,s.hi),zag h,ht⟩,(hle_Q []),by simp⟩
    . rw [if_neg c2] at ht
      refine sN ?_
      refine sF ?_
      exact ⟨⟨((a++[s],r),lo,hi),zag h,ht⟩,(hle_Q []),by simp⟩
end Ser
namespace Rcv
open Srt Jn Ser
def rcvC (r:Receiver) (a b c d:HV):List HV:=[i64 r.config.streams,i64 r.config.part,i64 r.config.packet,i64 r.config.paths,i64 r.config.turns,i64 r.config.waiting,i64 r.config.first,i64 r.cum,a,b,c,d]
abbrev rowS (l:List Span):HSlot:=.live (.row 199 2 (l.map Span.row))
abbrev rowP (l:List Piece):HSlot:=.live (.row 162 12 (l.map Piece.row))
abbrev rowT (l:List Int):HSlot:=.live (.row 3 1 (l.map fun n=>[pi n]))
abbrev rowL (l:List Arrival):HSlot:=.live (.row 56 4 (l.map Arrival.row))
abbrev rcvO (r:Receiver) (a b c d:Nat):HV:=.agg (rcvC r (.own a) (.own b) (.own c) (.own d))
abbrev rcvB (r:Receiver) (a b c d:Nat) (L:List (Nat × HSlot)):List (Nat × HSlot):=(a,rowS r.spans) :: (b,rowP r.pieces) :: (c,rowT r.turn) :: (d,rowL r.log) :: L
abbrev tkH (r:Receiver):List (Nat × HSlot):=(1000,.live (.cells 225 (rcvC r (.own 1001) (.own 1002) (.own 1003) (.own 1004)))) :: rcvB r 1001 1002 1003 1004 []
abbrev tkD (r:Receiver):List (Nat × HSlot):=(1000,.live (.cells 225 (rcvC r (.own 0) (.own 1) (.own 2) (.own 3)))) :: rcvB r 0 1 2 3 [(1001,.dead),(1002,.dead),(1003,.dead),(1004,.dead)]
def newR (c:Config):Receiver:=⟨c,c.first - 1,[],[],List.replicate (max c.streams 0).toNat 0,[]⟩
theorem zqx (c:Config) (h1:-9223372036854775808 < c.first) (h2:c.first <= 9223372036854775807) (h3:c.streams <= 1099511627776) :
 FunOK Tryz.prog 106 [c.hv] zad (rcvO (newR c) 0 1 2 3) (lk .free (rcvB (newR c) 0 1 2 3 [])):=by
 refine zal mixed Tryz.func106 (by decide) [] (fun _=>.inl rfl) ?_
 conv=>whnf
 refine sF ?_
 refine zaa (c:=(0 <= (if 0 > c.streams then 0 else c.streams:Int) /\ (if 0 > c.streams then 0 else c.streams:Int)=(if 0 > c.streams then 0 else c.streams:Int) /\ (if 0 > c.streams then 0 else c.streams:Int) * (8:Nat) <= 140737488355328)) (by split <;> omega) ?_;conv=>whnf
 refine sD ?_
 refine zak [(0,none),(1,none),(2,some 10),(3,none)] rfl rfl trivial rfl rfl ⟨⟨rfl,.inr ⟨rfl,rfl⟩⟩,⟨rfl,.inr ⟨rfl,rfl⟩⟩,⟨rfl,.inl ⟨10,rfl,?_⟩⟩,⟨rfl,.inr ⟨rfl,rfl⟩⟩,trivial⟩
 refine zan ?_
 rw [show (newR c).turn=List.replicate (max c.streams 0).toNat 0 from rfl,List.map_replicate]
 have:(max c.streams 0).toNat=(if 0 > c.streams then 0 else c.streams:Int).toNat:=by split <;> omega
 rw [this];rfl
structure Fit (r:Receiver):Prop where
 spans:r.spans.length < 2 ^ 36
 pieces:r.pieces.length < 2 ^ 22
 bytes:tot r.pieces < 2 ^ 22
 turn:r.turn.length < 2 ^ 36
 log:r.log.length < 2 ^ 36
 data:∀ a ∈ r.log,a.data.length < 2 ^ 40
abbrev zeroR:List HV:=[i64 0,i64 0,i64 0,i64 0,i64 0,i64 0,i64 0,i64 0,hnil,hnil,hnil,hnil]
theorem zci (r:Receiver) (hr:Fit r):FunOK Tryz.prog 111 [r.hv] zad (rcvO r 0 1 2 3) (lk .free (rcvB r 0 1 2 3 [])):=by
 obtain ⟨h1,h2,h3,h4,h5,h6⟩:=hr
 refine zal mixed Tryz.func111 (by decide) [] (fun _=>.inl rfl) ?_
 conv=>whnf
 (refine zao [(0,11)]  ?_;(conv=>whnf);refine dO (Cl.zdu r.spans (by omega)) ?_)
 (refine zao [(0,14)]  ?_;(conv=>whnf);refine dO (Cl.zmp r.turn (by omega)) ?_)
 refine sD ?_
 refine ⟨{ x:List Piece × List Piece // r.pieces=x.1++x.2 },fun | ⟨(A,B),_⟩=>hs 56 [(1,.ptr 1 0),(2,.ptr 2 0),(3,.own 900),(18,pieces r.pieces),(19,i64 r.pieces.length),(20,i64 A.length)] [(1,.live (.cells 37 (rcvC r (.own 11) (pieces r.pieces) (.own 14) (.p (.sl 4 (r.log.map Arrival.row)))))),(2,.live (.cells 37 zeroR)),(11,rowS r.spans),(14,rowT r.turn),(900,rowP A)],fun x=>x.1.2.length,⟨([],r.pieces),rfl⟩,?_,?_⟩
 . exact (hle_Q [(1,some 1),(2,some 2),(11,some 11),(14,some 14),(900,none)])
 rintro ⟨⟨A,B⟩,h⟩
 dsimp only at h
 have hl:r.pieces.length=A.length+B.length:=by rw [h];simp
 conv=>whnf
 cases B with
 | cons p B =>
  have hp:p.chunk.data.length <= tot r.pieces:=ynu (by rw [h];simp)
  rw [List.length_cons] at hl
  refine sT ?_
  refine zah h rfl ?_;conv=>whnf
  (refine zao [(0,27)]  ?_;(conv=>whnf);refine dO (Cl.zcf p.chunk.data (by omega)) ?_)
  refine zaa (c:=((A.map Piece.row).length+1) * 136 <= 140737488355328) (by simp;omega) ?_;conv=>whnf
  refine sF ?_
  refine ⟨⟨(A++[p],B),by rw [h];simp⟩,(hle_X [(1,some 1),(2,some 2),(11,some 11),(14,some 14),(900,some 33)] (by repeat' (first | exact z0 | refine z1 ?_ | refine ⟨?_,?_⟩ | ((exact zau (f:=Piece.row) rfl rfl)) | exact z2))),by simp⟩
 | nil =>
  rw [List.length_nil] at hl
  rw [List.append_nil] at h
  refine sN ?_
  refine ⟨{ x:List Arrival × List Arrival // r.log=x.1++x.2 },fun | ⟨(A,B),_⟩=>hs 56 [(1,.ptr 1 0),(2,.ptr 2 0),(3,.own 900),(6,.own 901),(36,.p (.sl 4 (r.log.map Arrival.row))),(37,i64 r.log.length),(38,i64 A.length)] [(1,.live (.cells 37 (rcvC r (.own 11) (pieces r.pieces) (.own 14) (.p (.sl 4 (r.log.map Arrival.row)))))),(2,.live (.cells 37 zeroR)),(11,rowS r.spans),(14,rowT r.turn),(900,rowP r.pieces),(901,rowL A)],fun x=>x.1.2.length,⟨([],r.log),rfl⟩,?_,?_⟩
  . exact (hle_X [(1,some 1),(2,some 2),(11,some 11),(14,some 14),(900,some 900),(901,none)] (by repeat' (first | exact z0 | refine z1 ?_ | refine ⟨?_,?_⟩ | ((exact zan (by rw [h]))) | exact z2)))
  rintro ⟨⟨A,B⟩,h⟩
  dsimp only at h
  have hl:r.log.length=A.length+B.length:=by rw [h];simp
  conv=>whnf
  cases B with
  | cons p B =>
   have hp:=h6 p (by rw [h];simp)
   rw [List.length_cons] at hl
   refine sT ?_
   refine zah h rfl ?_;conv=>whnf
   (refine zao [(0,44)]  ?_;(conv=>whnf);refine dO (Cl.zcf p.data (by omega)) ?_)
   refine zaa (c:=((A.map Arrival.row).length+1) * 48 <= 140737488355328) (by simp;omega) ?_;conv=>whnf
   refine sF ?_
   refine ⟨⟨(A++[p],B),by rw [h];simp⟩,(hle_X [(1,some 1),(2,some 2),(11,some 11),(14,some 14),(900,some 900),(901,some 49)] (by repeat' (first | exact z0 | refine z1 ?_ | refine ⟨?_,?_⟩ | ((exact zau (f:=Arrival.row) rfl rfl)) | exact z2))),by simp⟩
  | nil =>
   rw [List.length_nil] at hl
   rw [List.append_nil] at h
   refine sN ?_
   refine zak [(0,some 11),(1,some 900),(2,some 14),(3,some 901)] rfl rfl trivial rfl rfl ⟨⟨rfl,.inl ⟨11,rfl,rfl⟩⟩,⟨rfl,.inl ⟨900,rfl,rfl⟩⟩,⟨rfl,.inl ⟨14,rfl,rfl⟩⟩,⟨rfl,.inl ⟨901,rfl,?_⟩⟩,trivial⟩
   exact zan (by rw [h])
theorem yan (r:Receiver) (h2:r.pieces.length < 2 ^ 40) (h3:tot r.pieces < 2 ^ 60):FunOK Tryz.prog 179 [r.hv] zad (i64 (tot r.pieces:Nat)) zad:=by
 refine zai mixed Tryz.func179 (by decide) ?_
 exact yy27
theorem zmz (r:Receiver) (h2:r.pieces.length < 2 ^ 40) (h3:tot r.pieces < 2 ^ 60):FunOK Tryz.prog 57 [r.hv] zad (i64 (tot r.pieces:Nat)) zad:=by
 refine zai mixed Tryz.func57 (by decide) ?_
 exact yy27
def mine (s m:Int) (o:Bool) (p:Piece):Bool:=decide (p.chunk.stream=s) && decide (p.chunk.mid=m) && (p.chunk.ordered == o)
theorem yod (p:Piece) (s m:Int) (o:Bool):FunOK Tryz.prog 199 [.rp p.row,i64 s,i64 m,hbool o] zad (hbool (mine s m o p)) zad:=by
 refine zai mixed Tryz.func199 (by decide) ?_
 conv=>whnf
 by_cases c1:p.chunk.stream=s
 . refine zac (by simpa using c1) ?_;conv=>whnf
   by_cases c2:p.chunk.mid=m
   . refine zac (by simpa using c2) ?_;conv=>whnf
     simp [mine,c1,c2]
   . refine zab (by simpa using c2) ?_;conv=>whnf
     simp [mine,c2]
 . refine zab (by simpa using c1) ?_;conv=>whnf
   simp [mine,c1]
theorem yjh (s m:Int) (o:Bool) (p:Piece):FunOK Tryz.prog 211 [p.hv,.rp [pi s],.rp [pi m],.rp [pb o]] zad (hbool (mine s m o p)) zad:=by
 refine zai mixed Tryz.func211 (by decide) ?_
 conv=>whnf
 ((refine zar ?_;(conv=>whnf);refine ⟨_,yod p s m o,rfl,?_⟩;conv=>whnf);try (refine hcut.go ?_;conv=>whnf))
def dropR (r:Receiver) (s m:Int) (o:Bool):Receiver:={ r with pieces:=r.pieces.filter fun p=>!mine s m o p }
theorem zqz (r:Receiver) (s m:Int) (o:Bool) (h2:r.pieces.length < 2 ^ 38) :
 FunOK Tryz.prog 201 [.ptr 1000 0,i64 s,i64 m,hbool o] (lk .free (tkH r)) (.tup []) (lk .free (tkD (dropR r s m o))):=by
 refine zal mixed Tryz.func201 (by decide) [1000,1001,1002,1003,1004] zba ?_
 conv=>whnf
 (refine zae [false,true] [(1000,1002)] [(0,15)] ?_;(conv=>whnf);refine dG (Cl.yij (fun p=>yjh s m o p) r.pieces (by omega)) ?_)
 (exact zbn (pK5 [(0,some 1001),(1,some 15),(2,some 1003),(3,some 1004)]))
def dlv (r:Receiver) (s m:Int) (o:Bool):Receiver × Bool:=match join (r.pieces.filter (mine s m o)) with
 | none=>(r,false)
 | some b=>({ dropR r s m o with log:=r.log++[⟨s,m,o,b⟩] },true)
theorem zhj (f:Piece -> Bool):∀ l:List Piece,tot (l.filter f) <= tot l
 | []=>Nat.le_refl _
 | p :: l=>by
  have:=zhj f l
  rw [List.filter_cons]
  split
  . rw [zdp,zdp];omega
  . rw [zdp];omega
theorem zjb (r:Receiver) (s m:Int) (o:Bool) (h2:r.pieces.length < 2 ^ 37) (h3:tot r.pieces < 2 ^ 40) (h4:r.log.length < 2 ^ 38) :
 FunOK Tryz.prog 183 [.ptr 1000 0,i64 s,i64 m,hbool o] (lk .free (tkH r)) (hbool (dlv r s m o).2) (lk .free (tkD (dlv r s m o).1)):=by
 refine zal mixed Tryz.func183 (by decide) [1000,1001,1002,1003,1004] zba ?_
 conv=>whnf
 refine ⟨{ x:List Piece × List Piece // r.pieces=x.1++x.2 },fun | ⟨(A,B),_⟩=>hsP [1000,1001,1002,1003,1004] 61 [(0,.ptr 1000 0),(1,i64 s),(2,i64 m),(3,hbool o),(8,hbool false),(9,.own 900),(18,.own 1002),(19,i64 r.pieces.length),(20,i64 A.length)] (tkH r++[(900,rowP (A.filter (mine s m o)))]),fun x=>x.1.2.length,⟨([],r.pieces),rfl⟩,?_,?_⟩
 . exact (hle_Y (pK5 [(900,none)]) (by repeat' (first | exact z0 | refine z1 ?_ | refine ⟨?_,?_⟩ | ((exact zaw om)) | exact z2)))
 rintro ⟨⟨A,B⟩,h⟩
 dsimp only at h
 have hl:r.pieces.length=A.length+B.length:=by rw [h];simp
 have hf:=List.length_filter_le (mine s m o) A
 conv=>whnf
 cases B with
 | cons p B =>
  rw [List.length_cons] at hl
  refine sT ?_
  refine sO ?_
  refine zah h rfl ?_;conv=>whnf
  (refine cL ?_;refine dL (yod p s m o) ?_)
  cases hp:mine s m o p with
  | true =>
   conv=>whnf
   try (refine hcut.go ?_;conv=>whnf)
   refine zaa (c:=(((A.filter (mine s m o)).map Piece.row).length+1) * 136 <= 140737488355328) (by simp;omega) ?_;conv=>whnf
   try (refine hcut.go ?_;conv=>whnf)
   refine sF ?_
   exact ⟨⟨(A++[p],B),by rw [h];simp⟩,(hle_Y (pK5 [(900,some 31)]) (by repeat' (first | exact z0 | refine z1 ?_ | refine ⟨?_,?_⟩ | ((exact zau (f:=Piece.row) (by rw [List.filter_append,List.filter_cons,if_pos hp];rfl) rfl)) | exact z2))),by simp⟩
  | false =>
   conv=>whnf
   try (refine hcut.go ?_;conv=>whnf)
   refine sF ?_
   exact ⟨⟨(A++[p],B),by rw [h];simp⟩,(hle_Y (pK5 [(900,some 900)]) (by repeat' (first | exact z0 | refine z1 ?_ | refine ⟨?_,?_⟩ | ((exact zan (by rw [List.filter_append,List.filter_cons,if_neg (by rw [hp];decide)];simp))) | exact z2))),by simp⟩
 | nil =>
  rw [List.length_nil] at hl
  rw [List.append_nil] at h
  have ht:=zhj (mine s m o) A
  have hA:tot A=tot r.pieces:=by rw [h]
  have hd:dlv r s m o=match join (A.filter (mine s m o)) with
   | none=>(r,false)
   | some b=>({ dropR r s m o with log:=r.log++[⟨s,m,o,b⟩] },true):=by rw [dlv,h]
  have ps:=ynv (A.filter (mine s m o)) (by omega) (by omega)
  refine sN ?_
  cases hj:join (A.filter (mine s m o)) with
  | none =>
   rw [hj] at hd ps
   rw [hd]
   (refine zao [(0,35)]  ?_;(conv=>whnf);refine dO ps ?_)
   exact yy125
  | some b =>
   rw [hj] at hd ps
   rw [hd]
   (refine zao [(0,35)]  ?_;(conv=>whnf);refine dO ps ?_)
   refine zaa (c:=((r.log.map Arrival.row).length+1) * 48 <= 140737488355328) (by simp;omega) ?_;conv=>whnf
   try (refine hcut.go ?_;conv=>whnf)
   (refine zae [] [(1000,1000),(1001,1001),(1002,1002),(1003,1003),(1004,52)] [(0,910),(1,911),(2,912),(3,913)] ?_;(conv=>whnf);refine dG (zqz { r with log:=r.log++[⟨s,m,o,b⟩] } s m o (by dsimp only;omega)) ?_ ⟨rfl,rfl,rfl,⟨⟨rfl,_,rfl,.inl ⟨rfl,rfl⟩⟩,⟨⟨rfl,_,rfl,.inl ⟨rfl,rfl⟩⟩,⟨⟨rfl,_,rfl,.inl ⟨rfl,rfl⟩⟩,⟨⟨rfl,_,rfl,.inl ⟨rfl,rfl⟩⟩,⟨⟨rfl,_,rfl,.inl ⟨rfl,zau (f:=Arrival.row) (x:=⟨s,m,o,b⟩) rfl rfl⟩⟩,trivial⟩⟩⟩⟩⟩,⟨⟨rfl,rfl⟩,⟨⟨rfl,rfl⟩,⟨⟨rfl,rfl⟩,⟨⟨rfl,rfl⟩,trivial⟩⟩⟩⟩,rfl,rfl,rfl⟩)
   exact yy101
theorem yrk {l:List Piece} {b:List UInt8} (h:join l=some b):0 < l.length:=by
 unfold join at h
 split at h
 . cases h
 . rename_i c;exact List.length_pos_iff.2 c
theorem zhx {r:Receiver} {s m:Int} {o:Bool} (h:(dlv r s m o).2=true):(dlv r s m o).1.pieces.length < r.pieces.length:=by
 unfold dlv at h ⊢
 split
 . rename_i hj;rw [hj] at h;cases h
 . rename_i b hj
   have h1:=yrk hj
   have h2:(r.pieces.filter fun p=>!mine s m o p).length+(r.pieces.filter (mine s m o)).length=r.pieces.length:=by
    induction r.pieces with
    | nil=>rfl
    | cons p l ih =>
     rw [List.filter_cons,List.filter_cons]
     cases mine s m o p <;> simp <;> omega
   show (r.pieces.filter fun p=>!mine s m o p).length < _
   omega
theorem zgb (r:Receiver) (s m:Int) (o:Bool):(dlv r s m o).1.turn=r.turn /\ (dlv r s m o).1.cum=r.cum /\ (dlv r s m o).1.spans=r.spans /\ (dlv r s m o).1.config=r.config /\ (dlv r s m o).1.pieces.length <= r.pieces.length /\ tot (dlv r s m o).1.pieces <= tot r.pieces /\
 (dlv r s m o).1.log.length+(dlv r s m o).1.pieces.length <= r.log.length+r.pieces.length:=by
 have hl:=fun h=>zhx (r:=r) (s:=s) (m:=m) (o:=o) h
 unfold dlv at hl ⊢
 split
 . exact ⟨rfl,rfl,rfl,rfl,Nat.le_refl _,Nat.le_refl _,Nat.le_refl _⟩
 . rename_i b hj
   rw [hj] at hl
   have h1:=hl rfl
   dsimp only [dropR] at h1 ⊢
   refine ⟨rfl,rfl,rfl,rfl,List.length_filter_le _ _,zhj _ _,?_⟩
   simp only [List.length_append,List.length_singleton];omega
def bump (r:Receiver) (k:Nat):Receiver:={ r with turn:=r.turn.set k (r.turn[k]?.getD 0+1) }
def zra:Nat -> Receiver -> Nat -> Receiver
 | 0,r,_=>r
 | n+1,r,k=>if (dlv r k (tag (r.turn[k]?.getD 0)) true).2 then zra n (bump (dlv r k (tag (r.turn[k]?.getD 0)) true).1 k) k else (dlv r k (tag (r.turn[k]?.getD 0)) true).1
def turns (r:Receiver) (k:Nat):Receiver:=zra (r.pieces.length+1) r k
theorem zjt (r:Receiver) (k:Nat):turns r k=if (dlv r k (tag (r.turn[k]?.getD 0)) true).2 then turns (bump (dlv r k (tag (r.turn[k]?.getD 0)) true).1 k) k else (dlv r k (tag (r.turn[k]?.getD 0)) true).1:=by
 have gen:∀ (n m:Nat) (r:Receiver),r.pieces.length < n -> r.pieces.length < m -> zra n r k=zra m r k:=by
  intro n
  induction n with
  | zero=>intro m r h;omega
  | succ n ih =>
   intro m r h1 h2
   cases m with
   | zero=>omega
   | succ m =>
    rw [zra,zra]
    split
    . rename_i hd
      have:=zhx hd
      exact ih m _ (by show (dlv r k _ true).1.pieces.length < n;omega) (by show (dlv r k _ true).1.pieces.length < m;omega)
    . rfl
 conv=>lhs;rw [turns,zra]
 split
 . rename_i hd
   have:=zhx hd
   exact gen _ _ _ (by show (dlv r k _ true).1.pieces.length < _;omega) (by show (dlv r k _ true).1.pieces.length < _;exact Nat.lt_succ_self _)
 . rfl
structure TFit (r:Receiver) (k:Nat):Prop where
 pieces:r.pieces.length < 2 ^ 22
 bytes:tot r.pieces < 2 ^ 22
 log:r.log.length+r.pieces.length < 2 ^ 37
 has:k < r.turn.length
 lo:-(2 ^ 60) < r.turn[k]?.getD 0
 hi:r.turn[k]?.getD 0+r.pieces.length < 2 ^ 60
theorem yoe (r:Receiver) (k:Nat) (hf:TFit r k) :
 FunOK Tryz.prog 182 [.ptr 1000 0,i64 k] (lk .free (tkH r)) (.tup []) (lk .free (tkD (turns r k))):=by
 generalize hT:turns r k=T
 refine zal mixed Tryz.func182 (by decide) [1000,1001,1002,1003,1004] zba ?_
 conv=>whnf
 refine ⟨{ x:Receiver // TFit x k /\ turns x k=T },fun | ⟨x,_⟩=>hsP [1000,1001,1002,1003,1004] 26 [(0,.ptr 1000 0),(1,i64 k)] ((1000,.live (.cells 225 (rcvC x (.own 900) (.own 901) (.own 902) (.own 903)))) :: rcvB x 900 901 902 903 [(1001,.dead),(1002,.dead),(1003,.dead),(1004,.dead)]),fun x=>x.1.pieces.length,⟨r,hf,hT⟩,?_,?_⟩
 . exact (hle_P (pK5 [(900,some 1001),(901,some 1002),(902,some 1003),(903,some 1004)]))
 rintro ⟨x,⟨h1,h2,h3,h4,h5,h6⟩,he⟩
 conv=>whnf
 refine sO ?_
 refine zbe k rfl h4 ?_;conv=>whnf
 have hg:x.turn[k]?.getD 0=x.turn[k]:=by simp [h4]
 (refine cL ?_;refine dL (zcg _) ?_)
 have hstep:=zjt x k
 rw [he,hg] at hstep
 rw [hg] at h5 h6
 obtain ⟨k1,k2,k3,k4,k5,k6,k7⟩:=zgb x k (tag x.turn[k]) true
 have hless:(dlv x k (tag x.turn[k]) true).2=true -> (dlv x k (tag x.turn[k]) true).1.pieces.length < x.pieces.length:=fun h=>zhx h
 (refine zae [] [(1000,1000),(1001,900),(1002,901),(1003,902),(1004,903)] [(0,910),(1,911),(2,912),(3,913)] ?_;(conv=>whnf);refine dG (zjb x k (tag x.turn[k]) true (by omega) (by omega) (by omega)) ?_)
 generalize hD:dlv x k (tag x.turn[k]) true=D at *
 obtain ⟨y,ok⟩:=D
 dsimp only at k1 k2 k3 k4 k5 k6 k7 hless hstep
 have h4':k < y.turn.length:=by rw [k1];exact h4
 have hyk:y.turn[k]=x.turn[k]:=by simp only [k1]
 cases ok with
 | false =>
  have hstep:T=y:=hstep
  subst hstep
  conv=>whnf
  try (refine hcut.go ?_;conv=>whnf)
  exact yy101
 | true =>
  have hless:=hless rfl
  conv=>whnf
  try (refine hcut.go ?_;conv=>whnf)
  refine sO ?_
  refine zbe k rfl h4' ?_;conv=>whnf
  rw [hyk]
  refine sF ?_
  refine sO ?_
  refine zbe k rfl h4' ?_;conv=>whnf
  have hb:(bump y k).turn[k]?.getD 0=x.turn[k]+1:=by
   show (y.turn.set k (y.turn[k]?.getD 0+1))[k]?.getD 0=_
   rw [List.getElem?_set_self h4',List.getElem?_eq_getElem h4',hyk];rfl
  refine ⟨⟨bump y k,⟨by show y.pieces.length < _;omega,by show tot y.pieces < _;omega,by show y.log.length+y.pieces.length < _;omega,by show k < (y.turn.set k _).length;rw [List.length_set];exact h4',by rw [hb];omega,by rw [hb];show _+(y.pieces.length:Int) < _;omega⟩,?_⟩,(hle_Y (pK5 [(900,some 910),(901,some 911),(902,some 912),(903,some 913)]) (by repeat' (first | exact z0 | refine z1 ?_ | refine ⟨?_,?_⟩ | ((refine zan ?_;show _=(y.turn.set k (y.turn[k]?.getD 0+1)).map _;rw [List.map_set,List.getElem?_eq_getElem h4',hyk];rfl)) | exact z2))),by show y.pieces.length < x.pieces.length;omega⟩
  rw [hstep];rfl
end Rcv
end Go.HL
