/- Walks, contracts and laws of the law's functions: part 4. No condition. -/
import Derived.Test.YticmofoeecjnhaaGreatMc
open Go.Proofs
set_option maxHeartbeats 32000000
set_option maxRecDepth 100000
set_option linter.unusedSimpArgs false
theorem yy58 {P:Prop} (h:P:=by
 conv=>whnf
 refine zaf (fun c5=>?_) (fun c5=>?_)
 . have c5:¬ w=0:=by simpa using c5
   rw [if_pos c5]
   conv=>whnf
   rfl
 . have c5:w=0:=by simpa using c5
   rw [if_neg (fun h=>h c5)]
   conv=>whnf
   rfl):P:=h
theorem yy68 {P:Prop} (h:P:=by
 have hbad:(zcb kind s).2=false:=by
  cases hok:ok with
  | false=>exact h.bad hok
  | true =>
   obtain ⟨i1,i2,i3,i4⟩:=h.good hok
   exact bad3 k1 k2 (.inr (.inl (by simp at i3;omega)))
 exact ⟨fun _=>⟨fun h2=>(by cases h2),fun _=>hbad,by simp [one,two] at hlen ⊢;omega⟩,fun _=>⟨fun h2=>(by cases h2),fun _=>hbad,by simp [one,two] at hlen ⊢;omega⟩⟩):P:=h
theorem yy114 {P:Prop} (h:P:=by
 show HSlot.live (.row _ 3 (acc.map Skip.row++[Skip.row ⟨A.1,D.1,B.1 == 1⟩]))=HSlot.live (.row _ 3 (List.map Skip.row (acc++[⟨A.1,D.1,B.1 == 1⟩])))
 rw [List.map_append]
 rfl):P:=h
theorem yy32 {P:Prop} (h:P:=by
 refine zaf (fun c3=>?_) (fun c3=>?_)
 . have c3:wrong c ≠ 0:=by simpa using c3
   rw [if_pos c3] at hi
   conv=>whnf
   rw [hi,if_pos c3]
   rfl
 have c3:wrong c=0:=by simpa using c3
 rw [if_neg (fun h=>h c3)] at hi
 conv=>whnf
 refine zaa (c:=(((zbk (l.take k)).map bRow).length+((Chk.bytes c).map bRow).length) * 1 <= 140737488355328) (by simp;omega) ?_;conv=>whnf
 refine sFm ?_
 refine ⟨⟨k+1,hlt,hi⟩,zbm [(900,some 30)] rfl rfl rfl rfl ⟨⟨rfl,rfl⟩,⟨rfl,rfl⟩,⟨rfl,rfl⟩,⟨rfl,rfl⟩,⟨rfl,by simp;rfl⟩,trivial⟩ ⟨⟨rfl,.inl ⟨30,rfl,?_⟩⟩,trivial⟩,by dsimp only;omega⟩
 show HSlot.live (.row _ 1 ((zbk (l.take k)).map bRow++(Chk.bytes c).map bRow))=row8 (zbk (l.take (k+1)))
 rw [hsucc,row8,List.map_append]):P:=h
theorem yy57 {P:Prop} (h:P:=by
 rw [List.drop_eq_nil_of_le hge] at hi
 have hi:zbx l=0:=hi
 have ht:l.take k=l:=List.take_of_length_le hge
 have hab:=zek l
 conv=>whnf
 refine zaf (fun c3=>?_) (fun c3=>?_)
 . have c3:((zbk l).length:Int) > most:=by rw [ht] at c3;simpa using c3
   conv=>whnf
   rw [if_neg (fun h=>h hi),if_pos c3]
   rfl
 . have c3:¬ ((zbk l).length:Int) > most:=by rw [ht] at c3;simpa using c3
   conv=>whnf
   rw [if_neg (fun h=>h hi),if_neg c3,ht]):P:=h
theorem yy15 {P:Prop} (h:P:=by
 generalize parse b'=p at h1 h2 hn hg q1 q2 ⊢
 obtain ⟨c,n,e⟩:=p
 dsimp only at h1 h2 hn hg q1 q2
 conv=>whnf
 refine zaf (fun c3=>?_) (fun c3=>?_)
 . have c3:e ≠ 0:=by simpa using c3
   rw [if_pos c3] at h1
   dsimp only at h1
   have h4:=h3 (by rw [h1];exact c3)
   conv=>whnf
   rw [h4,h1]
   try rfl
 have c3:e=0:=by simpa using c3
 rw [if_neg (fun h=>h c3)] at h1 h2
 have hn:=hn c3
 obtain ⟨g1,g2,g3,g4⟩:=hg c3
 conv=>whnf
 refine zaa (c:=((acc.map Chunk.row).length+1) * 128 <= 140737488355328) (by simp;omega) ?_;conv=>whnf
 refine zaa ⟨g2,by rw [List.length_map];exact g3,by omega⟩ ?_;conv=>whnf
 refine zdq (l:=b') (by rw [List.length_map];show n.toNat+((b'.length:Int) - n).toNat=b'.length;omega) ?_
 conv=>whnf
 try (refine zap ?_ ?_;· kernel_rfl)
 try conv=>whnf
 refine ⟨⟨(g,b'.drop n.toNat,acc++[c]),by dsimp only;rw [List.length_drop];omega,by dsimp only;rw [List.length_drop,List.length_append];simp;omega,?_,?_,h3⟩,zbm [(900,some 26)] rfl rfl rfl rfl ⟨⟨rfl,rfl⟩,⟨rfl,rfl⟩,trivial⟩ ⟨⟨rfl,.inl ⟨26,rfl,?_⟩⟩,trivial⟩,by dsimp only;rw [List.length_drop];omega⟩
 . dsimp only
   rw [h1]
   split
   . rfl
   . rename_i h;exact (Decidable.of_not_not h).symm
 . dsimp only
   intro h
   rw [if_neg (fun h'=>h' h)] at h2
   have:=h2 rfl
   rw [this];simp
 . show HSlot.live (.row _ 11 (acc.map Chunk.row++[c.row]))=HSlot.live (.row _ 11 ((acc++[c]).map Chunk.row))
   rw [List.map_append]
   rfl):P:=h
theorem yy108 {P:Prop} (h:P:=by
 have h4:zdr f b'=([],0):=by
  cases f with
  | zero=>rfl
  | succ f=>rw [zdr,if_pos c2]
 rw [h4] at h1 h2
 have h5:=h2 rfl
 rw [List.append_nil] at h5
 have h1:R.2=0:=h1
 conv=>whnf
 rw [h5,h1]
 try rfl):P:=h
theorem yy50 {P:Prop} (h:P:=by
 refine zal mixed Tryz.func130 (by decide) [1000,1001,1002,1003,1004,1005,1006,1007] zba ?_
 conv=>whnf
 by_cases c1:life > 0
 . refine sT ?_
   refine sR ?_
   try refine sT ?_
   (exact zby (pK8 []) (by repeat' (first | exact z0 | refine z1 ?_ | refine ⟨?_,?_⟩ | ((simp [old,c1];rfl)) | ((simp [old,c1])) | exact z2)))
 . refine sN ?_
   try refine sN ?_
   (exact zby (pK8 []) (by repeat' (first | exact z0 | refine z1 ?_ | refine ⟨?_,?_⟩ | ((simp [old,c1];rfl)) | ((simp [old,c1])) | exact z2)))):P:=h
theorem yy115 {P:Prop} (h:P:=by
 conv=>whnf
 refine zak [(1000,some 1000),(0,some 7)] rfl rfl ⟨rfl,trivial⟩ rfl rfl ⟨⟨rfl,.inl ⟨1000,rfl,rfl⟩⟩,⟨rfl,.inl ⟨7,rfl,?_⟩⟩,trivial⟩
 rfl):P:=h
theorem yy126 {P:Prop} (h:P:=by
 refine zak [(1000,some 1000),(0,none)] rfl rfl ⟨rfl,trivial⟩ rfl rfl ⟨⟨rfl,.inl ⟨1000,rfl,rfl⟩⟩,⟨rfl,.inr ⟨rfl,hn c⟩⟩,trivial⟩):P:=h
theorem yy30 {P:Prop} (h:P:=by
 rintro ⟨⟨A,B⟩,h⟩
 dsimp only at h
 conv=>whnf
 cases B with
 | cons p B =>
  have hz:=zat h
  refine sT ?_
  (refine cL ?_;refine dL (Sco.zkl s.out A.length h3) ?_)
  refine sOm ?_
  refine zah (a:=A.mapIdx (flP s.out)) (b:=B) (s:=p) rfl (by simp) ?_;conv=>whnf
  refine sD ?_
  refine sF ?_
  exact ⟨⟨(A++[p],B),zag h⟩,(hle_Y (pK8 []) (by repeat' (first | exact z0 | refine z1 ?_ | refine ⟨?_,?_⟩ | ((rw [ycu];exact (zcw (by simp) rfl).symm)) | exact z2))),by simp⟩
 | nil =>
  have hz:=zaz h
  rw [List.append_nil] at h
  refine sN ?_
  (exact zby (pK8 [(0,some 1001),(1,some 1002),(2,some 1003),(3,some 1004),(4,some 1005),(5,some 1006)]) (by repeat' (first | exact z0 | refine z1 ?_ | refine ⟨?_,?_⟩ | ((exact zan (by rw [flights,h,List.append_nil]))) | exact z2)))):P:=h
theorem yy13 {P:Prop} (h:P:=by
 have hz:=zat k1
 have hnext:(A++[m]).foldl (end1 id) { s with fates:=s.fates.set id 3 }=end1 id (giveF s id o n) m:=by rw [List.foldl_append,k2];rfl
 refine sT ?_
 refine zaa (by simp [giveF];omega) ?_;conv=>whnf
 refine zah k1 rfl ?_;conv=>whnf
 by_cases c1:m.id=id
 case neg =>
  refine zab (by simpa using c1) ?_;conv=>whnf
  repeat (refine hcut.go ?_;conv=>whnf)
  refine sF ?_
  rw [end1,if_neg (by intro h;exact c1 h.1)] at hnext
  exact ⟨⟨((A++[m],B),o,n),zag k1,hnext,by simp;omega,k4⟩,(hle_P (pK8 ((900,some 900) :: [(3,some 3)]))),by simp⟩
 refine zac (by simpa using c1) ?_;conv=>whnf
 by_cases c2:m.parts > 0
 case neg =>
  refine zab (by simpa using c2) ?_;conv=>whnf
  repeat (refine hcut.go ?_;conv=>whnf)
  refine sF ?_
  rw [end1,if_neg (by intro h;exact c2 h.2)] at hnext
  exact ⟨⟨((A++[m],B),o,n),zag k1,hnext,by simp;omega,k4⟩,(hle_P (pK8 ((900,some 900) :: [(3,some 3)]))),by simp⟩
 refine zac (by simpa using c2) ?_;conv=>whnf
 repeat (refine hcut.go ?_;conv=>whnf)
 rw [end1,if_pos ⟨c1,c2⟩] at hnext
 (refine cL ?_;refine dL (zcg n) ?_)
 (refine cL ?_;refine dL (zcg m.mid) ?_)
 refine zaa (c:=((o.map Sent.row).length+1) * 200 <= 140737488355328) (by rw [List.length_map];omega) ?_;conv=>whnf
 refine sD ?_
 refine sR ?_
 refine sF ?_
 refine ⟨⟨((A++[m],B),o++[endOf n m],W (n+1)),zag k1,hnext,by simp;omega,by rw [Sco.zfi,k4];simp [Sco.total,endOf]⟩,(hle_Y (pK8 ((900,some 64) :: [(3,some 3)])) (by repeat' (first | exact z0 | refine z1 ?_ | refine ⟨?_,?_⟩ | ((exact zau (f:=Sent.row) rfl (by rw [endOf,c1];rfl))) | exact z2))),by simp⟩):P:=h
theorem yy28 {P:Prop} (h:P:=by
 (exact zby (pK8 [(0,some 910),(1,some 911),(2,some 912),(3,some 913),(4,some 914),(5,some 915)]) (by repeat' (first | exact z0 | refine z1 ?_ | refine ⟨?_,?_⟩ | ((exact zan (by congr 1;exact List.filter_congr fun m _=>by rw [Bool.eq_iff_iff];simp))) | exact z2)))):P:=h
theorem yy105 {P:Prop} (h:P:=by
 refine sD ?_
 (exact zby (pK10 [(0,some 58)]) (by repeat' (first | exact z0 | refine z1 ?_ | refine ⟨?_,?_⟩ | ((exact zvo rfl)) | ((exact zvp)) | ((exact zau (f:=Chunk.row) rfl rfl)) | exact z2)))):P:=h
theorem yy45 {P:Prop} (h:P:=by
 refine sOm ?_
 refine zaj hv (by omega) ?_;conv=>whnf
 refine zaj hk rfl ?_;conv=>whnf
 refine sOm ?_
 refine zaj hv (by omega) ?_;conv=>whnf
 refine sR ?_
 refine sOm ?_
 refine zaj hv (by omega) ?_;conv=>whnf
 repeat (refine hcut.go ?_;conv=>whnf)
 refine zbj rfl (by simp;omega) ?_;conv=>whnf
 have hms2:(midS s k m).mids=_:=hms
 rw [hat] at hms2
 (exact zby (pK10 []) (by repeat' (first | exact z0 | refine z1 ?_ | refine ⟨?_,?_⟩ | ((rw [hmo];rfl)) | ((exact zvq hmo)) | ((exact (zdn rfl).trans (zan (by rw [hms2])))) | exact z2)))):P:=h
theorem yy46 {P:Prop} (h:P:=by
 refine sOm ?_
 refine zaj hv (by omega) ?_;conv=>whnf
 refine zaj hk rfl ?_;conv=>whnf
 refine sOm ?_
 refine zaj hv (by omega) ?_;conv=>whnf
 refine sR ?_
 refine sOm ?_
 refine zaj hv (by omega) ?_;conv=>whnf
 repeat (refine hcut.go ?_;conv=>whnf)
 refine zbj rfl (by simp;omega) ?_;conv=>whnf
 have hms2:(midS s k m).mids=_:=hms
 rw [hat] at hms2
 (exact zby (pK9 []) (by repeat' (first | exact z0 | refine z1 ?_ | refine ⟨?_,?_⟩ | ((rw [hmo];rfl)) | ((exact zvq hmo)) | ((exact (zdn rfl).trans (zan (by rw [hms2])))) | exact z2)))):P:=h
theorem yy9 {P:Prop} (h:P:=by
 cases d3:old u.clock x.came x.life with
 | true =>
  conv=>whnf
  refine sD ?_
  repeat (refine hcut.go ?_;conv=>whnf)
  (refine zae [] [(1000,1000),(1001,900),(1002,901),(1003,902),(1004,903),(1005,904),(1006,905),(1007,1007)] [(0,910),(1,911),(2,912),(3,913),(4,914),(5,915)] ?_;(conv=>whnf);refine dG pg ?_)
  refine sF ?_
  refine hQ _ _ ?_;conv=>whnf
  rw [expX,if_pos (by rw [hdue];simp [d1,d2,d3])] at hnext kn kr
  exact ⟨⟨((A++[x],B),giveS u x.id),zag k1,hnext,kn,k4.trans kr⟩,(hle_P (pK8 ((900,some 910) :: (901,some 911) :: (902,some 912) :: (903,some 913) :: (904,some 914) :: (905,some 915) :: [(34,some 34)]))),by simp⟩
 | false =>
 conv=>whnf
 by_cases d4:x.state=3
 case neg =>
  refine zab ?_ ?_
  . simpa using d4
  conv=>whnf
  refine sD ?_
  repeat (refine hcut.go ?_;conv=>whnf)
  refine sF ?_
  refine hQ _ _ ?_;conv=>whnf
  rw [expX,if_neg (by rw [hdue];simp [d1,d2,d3,d4])] at hnext
  exact ⟨⟨((A++[x],B),u),zag k1,hnext,k3,k4⟩,(hle_P (pK8 (pJ6 [(34,some 34)]))),by simp⟩
 refine zac ?_ ?_
 . simpa using d4
 conv=>whnf
 by_cases d5:x.tries > 0
 case neg =>
  refine zab ?_ ?_
  . simpa using d5
  conv=>whnf
  refine sD ?_
  repeat (refine hcut.go ?_;conv=>whnf)
  refine sF ?_
  refine hQ _ _ ?_;conv=>whnf
  rw [expX,if_neg (by rw [hdue];simp [d1,d2,d3,d4,d5])] at hnext
  exact ⟨⟨((A++[x],B),u),zag k1,hnext,k3,k4⟩,(hle_P (pK8 (pJ6 [(34,some 34)]))),by simp⟩
 refine zac ?_ ?_
 . simpa using d5
 conv=>whnf
 refine sD ?_
 by_cases d6:x.times > x.tries
 case neg =>
  refine zab ?_ ?_
  . simpa using d6
  conv=>whnf
  repeat (refine hcut.go ?_;conv=>whnf)
  refine sF ?_
  refine hQ _ _ ?_;conv=>whnf
  rw [expX,if_neg (by rw [hdue];simp [d1,d2,d3,d4,d5,d6])] at hnext
  exact ⟨⟨((A++[x],B),u),zag k1,hnext,k3,k4⟩,(hle_P (pK8 (pJ6 [(34,some 34)]))),by simp⟩
 refine zac ?_ ?_
 . simpa using d6
 conv=>whnf
 repeat (refine hcut.go ?_;conv=>whnf)
 (refine zae [] [(1000,1000),(1001,900),(1002,901),(1003,902),(1004,903),(1005,904),(1006,905),(1007,1007)] [(0,910),(1,911),(2,912),(3,913),(4,914),(5,915)] ?_;(conv=>whnf);refine dG pg ?_)
 refine sF ?_
 refine hQ _ _ ?_;conv=>whnf
 rw [expX,if_pos (by rw [hdue];simp [d1,d2,d3,d4,d5,d6])] at hnext kn kr
 exact ⟨⟨((A++[x],B),giveS u x.id),zag k1,hnext,kn,k4.trans kr⟩,(hle_P (pK8 ((900,some 910) :: (901,some 911) :: (902,some 912) :: (903,some 913) :: (904,some 914) :: (905,some 915) :: [(34,some 34)]))),by simp⟩):P:=h
theorem yy26 {P:Prop} (h:P:=by
 exact ⟨⟨((A++[x],B),u),zag k1,hnext,k3,k4⟩,(hle_P (pK8 (pJ6 [(34,some 34)]))),by simp⟩):P:=h
theorem yy47 {P:Prop} (h:P:=by
 rw [<- hid] at pg
 conv=>whnf
 repeat (refine hcut.go ?_;conv=>whnf)
 (refine zae [] [(1000,1000),(1001,900),(1002,901),(1003,902),(1004,903),(1005,904),(1006,905),(1007,1007)] [(0,910),(1,911),(2,912),(3,913),(4,914),(5,915)] ?_;(conv=>whnf);refine dG pg ?_)
 refine sF ?_
 refine hQ _ _ ?_;conv=>whnf
 exact ⟨⟨((A++[m],B),giveS t m.id),zag k1,hnext,kn,k4.trans kr⟩,(hle_P (pK8 ((900,some 910) :: (901,some 911) :: (902,some 912) :: (903,some 913) :: (904,some 914) :: (905,some 915) :: [(11,some 11)]))),by simp⟩):P:=h
theorem yy92 {P:Prop} (h:P:=by
 have hz:=zaz k1
 rw [List.append_nil] at k1
 rw [<- k1] at k2
 refine sN ?_
 refine hQ _ _ ?_;conv=>whnf
 have hu:u=E:=by rw [<- k2,hE2]
 rw [<- hu]
 (exact zbn (pK8 [(0,some 900),(1,some 901),(2,some 902),(3,some 903),(4,some 904),(5,some 905)]))):P:=h
theorem yy96 {P:Prop} (h:P:=by
 rw [expQ,if_neg (by rw [ho];decide)] at hnext
 conv=>whnf
 repeat (refine hcut.go ?_;conv=>whnf)
 refine sF ?_
 refine hQ _ _ ?_;conv=>whnf
 exact ⟨⟨((A++[m],B),t),zag k1,hnext,k3,k4⟩,(hle_P (pK8 (pJ6 [(11,some 11)]))),by simp⟩):P:=h
theorem yy89 {P:Prop} (h:P:=by
 conv=>whnf
 repeat (refine hcut.go ?_;conv=>whnf)
 (exact zbn (pK8 [(0,none),(1,none)]))):P:=h
theorem yy62 {P:Prop} (h:P:=by
 refine zab ?_ ?_
 . simpa using d1
 conv=>whnf
 repeat (refine hcut.go ?_;conv=>whnf)
 refine sF ?_
 exact ⟨⟨(i+1,t,a',b'),by dsimp only;omega,by rw [hst,hno fun h=>d1 h.1],k3,k4,by dsimp only;omega⟩,(hle_Y (pK10 [(900,some 900),(901,some 901)]) (by repeat' (first | exact z0 | refine z1 ?_ | refine ⟨?_,?_⟩ | ((exact zaw om)) | exact z2))),by dsimp only;omega⟩):P:=h
theorem yy63 {P:Prop} (h:P:=by
 refine zab ?_ ?_
 . simpa using d2
 conv=>whnf
 repeat (refine hcut.go ?_;conv=>whnf)
 refine sF ?_
 exact ⟨⟨(i+1,t,a',b'),by dsimp only;omega,by rw [hst,hno fun h=>d2 h.2],k3,k4,by dsimp only;omega⟩,(hle_Y (pK10 [(900,some 900),(901,some 901)]) (by repeat' (first | exact z0 | refine z1 ?_ | refine ⟨?_,?_⟩ | ((exact zaw om)) | exact z2))),by dsimp only;omega⟩):P:=h
theorem yy133 {P:Prop} (h:P:=by
 have hin:i=s.out.length:=by omega
 subst hin
 refine sN ?_
 rw [k2] at hag
 subst hag
 (exact zbn (pK10 [(0,some 900),(1,some 901)]))):P:=h
theorem yy127 {P:Prop} (h:P:=by
 rw [List.take_append_drop,Nat.sub_self,List.replicate_zero,List.append_nil]):P:=h
theorem yy2 {P:Prop} (h:P:=by
 refine zaj hm rfl ?_;conv=>whnf
 refine zam (z:=m.sent+many s m) hWs ?_;conv=>whnf
 refine zaj hm rfl ?_;conv=>whnf
 refine sD ?_
 have hm':(midS s k m).queue[k]?=some { m with mid:=midOf s m }:=by show (s.queue.set k _)[k]?=_;rw [List.getElem?_set_self hkl]
 have hmr:(s.queue.map Queued.row)[k]?=some m.row:=by rw [List.getElem?_map,hm];rfl
 (refine cL ?_;refine dL (zcg s.next) ?_)
 refine zaj hm rfl ?_;conv=>whnf
 (refine zae [] [(1000,1000),(1001,1001),(1002,1002),(1003,1003),(1004,1004),(1005,1005),(1006,1006),(1007,1007),(1008,1008)] [] ?_;(conv=>whnf);refine dG (zzg s a k m hm mf) ?_)
 (refine cL ?_;refine dL (zcg (midOf s m)) ?_)
 refine zaj hm' rfl ?_;conv=>whnf
 refine zaj hm' rfl ?_;conv=>whnf
 refine zaj hm' rfl ?_;conv=>whnf
 refine zaj hm' rfl ?_;conv=>whnf
 refine zaj hm' rfl ?_;conv=>whnf
 refine zam (z:=m.sent+many s m) hWs ?_;conv=>whnf
 refine zaa (c:=0 <= m.sent /\ m.sent <= m.sent+many s m /\ m.sent+many s m <= ((m.message.data.map bRow).length:Int)) ⟨ms,by omega,by rw [List.length_map];omega⟩ ?_;conv=>whnf
 refine zev (o':=m.sent.toNat) (n':=(many s m).toNat) rfl (show (m.sent+many s m - m.sent).toNat=(many s m).toNat by rw [show m.sent+many s m - m.sent=many s m by omega]) ?_
 refine zee (f:=bRow) (l:=m.message.data) (o:=m.sent.toNat) (n:=(many s m).toNat) (by omega) ?_
 conv=>whnf
 (refine zao [(0,150)]  ?_;(conv=>whnf);refine dO (Cl.zcf ((m.message.data.drop m.sent.toNat).take (many s m).toNat) (by simp;omega)) ?_)
 refine zgj [4,10,18,24,29,33,37] ?_ ?_ ?_
 . kernel_rfl
 . refine ⟨?_,?_,?_,?_,?_,?_,?_,trivial⟩
   all_goals
    refine And.intro trivial ?_
    refine And.intro trivial ?_
    refine And.intro ?_ trivial
    conv=>whnf
    refine And.intro ?_ ?_
    . conv=>whnf
      all_goals first | rfl | exact zaj hm rfl rfl
    refine And.intro ?_ trivial
    conv=>whnf
    all_goals first | rfl | exact zaj hm' rfl rfl
 conv=>whnf
 refine zaj hm' rfl ?_;conv=>whnf
 (refine zao [(0,163)]  ?_;(conv=>whnf);refine dO (zhh s.sched { m with mid:=midOf s m } (many s m) (ovr s m) (by omega) mf.lo mh) ?_)
 refine sD ?_
 refine zaj hm' rfl ?_;conv=>whnf
 refine zaj hm' rfl ?_;conv=>whnf
 refine zaj hm' rfl ?_;conv=>whnf
 refine zaj hm' rfl ?_;conv=>whnf
 refine zaa (c:=((s.out.map Sent.row).length+1) * 200 <= 140737488355328) (by rw [List.length_map];omega) ?_;conv=>whnf
 refine sD ?_
 refine sR ?_
 refine zaj hm' rfl ?_;conv=>whnf
 refine zam (z:=m.sent+many s m) hWs ?_;conv=>whnf
 refine zaj hm' rfl ?_;conv=>whnf
 refine zbj rfl (by simp [midS];omega) ?_;conv=>whnf
 refine sR ?_
 refine zbj rfl (by simp [midS];omega) ?_;conv=>whnf
 refine zbc (z':=(s.out.length:Int)) ?_ ?_
 . show W ((((midS s k m).out.map Sent.row++[_]).length:Int) - 1)=_
   rw [List.length_append,List.length_map,show (midS s k m).out=s.out from rfl,W_fit (by simp only [List.length_cons,List.length_nil];omega) (by simp only [List.length_cons,List.length_nil];omega)]
   simp only [List.length_cons,List.length_nil];omega
 conv=>whnf
 refine zaa (by rw [List.length_append,List.length_map,show (midS s k m).out=s.out from rfl];simp only [List.length_cons,List.length_nil];omega) ?_;conv=>whnf
 (refine zae [] [(1000,1000),(1001,1001),(1002,163),(1003,199),(1004,1004),(1005,1005),(1006,1006),(1007,1007),(1008,1008)] [(0,920)] ?_;(conv=>whnf);refine dG (zkm (s2 s k m) a s.out.length (x0 s m) w (by simp [s2]) hw (by omega)) ?_ ⟨rfl,rfl,rfl,⟨⟨rfl,_,rfl,.inl ⟨rfl,rfl⟩⟩,⟨⟨rfl,_,rfl,.inl ⟨rfl,q2row⟩⟩,⟨⟨rfl,_,rfl,.inl ⟨rfl,rfl⟩⟩,⟨⟨rfl,_,rfl,.inl ⟨rfl,(zau (f:=Sent.row) (x:=x0 s m) rfl rfl)⟩⟩,⟨⟨rfl,_,rfl,.inl ⟨rfl,rfl⟩⟩,⟨⟨rfl,_,rfl,.inl ⟨rfl,rfl⟩⟩,⟨⟨rfl,_,rfl,.inl ⟨rfl,rfl⟩⟩,⟨⟨rfl,_,rfl,.inl ⟨rfl,rfl⟩⟩,⟨⟨rfl,_,rfl,.inl ⟨rfl,rfl⟩⟩,trivial⟩⟩⟩⟩⟩⟩⟩⟩⟩,⟨⟨rfl,rfl⟩,trivial⟩,rfl,rfl,rfl⟩)
 refine sD ?_
 cases hov:ovr s m with
 | true =>
  refine zac ?_ ?_
  . exact hov
  conv=>whnf
  repeat (refine hcut.go ?_;conv=>whnf)
  refine zbc (z':=((k+1:Nat):Int)) ?_ ?_
  . show W ((k:Int)+1)=_
    rw [W_fit (by omega) (by omega)];push_cast;rfl
  conv=>whnf
  (refine zae [] [(1000,1001)] [(0,930)] ?_;(conv=>whnf);refine dG (delq (s.queue.set k (m2 s m)) k (k+1) (by omega) (by simp;omega) (by simp;omega)) ?_)
  rw [zdx hc0 hw rfl,if_pos hov] at hG
  subst hG
  (exact zby (pK9 [(0,some 930),(1,some 163),(2,some 199),(3,some 1004),(4,some 1005),(5,some 1006),(6,some 920)]) (by repeat' (first | exact z0 | refine z1 ?_ | refine ⟨?_,?_⟩ | ((exact zan (by rw [zhi hkl]))) | exact z2)))
 | false =>
  refine zab ?_ ?_
  . exact hov
  conv=>whnf
  repeat (refine hcut.go ?_;conv=>whnf)
  rw [zdx hc0 hw rfl,if_neg (by rw [hov];decide)] at hG
  subst hG
  (exact zbn (pK9 [(0,some 1001),(1,some 163),(2,some 199),(3,some 1004),(4,some 1005),(5,some 1006),(6,some 920)]))):P:=h
theorem yy51 {P:Prop} (h:P:=by
 subst hG
 repeat (refine hcut.go ?_;conv=>whnf)
 (exact zbn (pK9 [(0,some 1001),(1,some 1002),(2,some 1003),(3,some 1004),(4,some 1005),(5,some 1006),(6,some 1008)]))):P:=h
theorem yy0 {P:Prop} (h:P:=by
 refine zaj hm rfl ?_;conv=>whnf
 refine zam (z:=m.sent+many s m) hWs ?_;conv=>whnf
 refine zaj hm rfl ?_;conv=>whnf
 refine sD ?_
 have hm':(midS s k m).queue[k]?=some { m with mid:=midOf s m }:=by show (s.queue.set k _)[k]?=_;rw [List.getElem?_set_self hkl]
 have hmr:(s.queue.map Queued.row)[k]?=some m.row:=by rw [List.getElem?_map,hm];rfl
 (refine cL ?_;refine dL (zcg s.next) ?_)
 refine zaj hm rfl ?_;conv=>whnf
 (refine zae [] [(1000,1000),(1001,1001),(1002,1002),(1003,1003),(1004,1004),(1005,1005),(1006,1006),(1007,1007),(1008,1008),(1009,1009)] [] ?_;(conv=>whnf);refine dG (zlm s a b k m hm mf) ?_)
 (refine cL ?_;refine dL (zcg (midOf s m)) ?_)
 refine zaj hm' rfl ?_;conv=>whnf
 refine zaj hm' rfl ?_;conv=>whnf
 refine zaj hm' rfl ?_;conv=>whnf
 refine zaj hm' rfl ?_;conv=>whnf
 refine zaj hm' rfl ?_;conv=>whnf
 refine zam (z:=m.sent+many s m) hWs ?_;conv=>whnf
 refine zaa (c:=0 <= m.sent /\ m.sent <= m.sent+many s m /\ m.sent+many s m <= ((m.message.data.map bRow).length:Int)) ⟨ms,by omega,by rw [List.length_map];omega⟩ ?_;conv=>whnf
 refine zev (o':=m.sent.toNat) (n':=(many s m).toNat) rfl (show (m.sent+many s m - m.sent).toNat=(many s m).toNat by rw [show m.sent+many s m - m.sent=many s m by omega]) ?_
 refine zee (f:=bRow) (l:=m.message.data) (o:=m.sent.toNat) (n:=(many s m).toNat) (by omega) ?_
 conv=>whnf
 (refine zao [(0,150)]  ?_;(conv=>whnf);refine dO (Cl.zcf ((m.message.data.drop m.sent.toNat).take (many s m).toNat) (by simp;omega)) ?_)
 refine zgj [4,10,18,24,29,33,37] ?_ ?_ ?_
 . kernel_rfl
 . refine ⟨?_,?_,?_,?_,?_,?_,?_,trivial⟩
   all_goals
    refine And.intro trivial ?_
    refine And.intro trivial ?_
    refine And.intro ?_ trivial
    conv=>whnf
    refine And.intro ?_ ?_
    . conv=>whnf
      all_goals first | rfl | exact zaj hm rfl rfl
    refine And.intro ?_ trivial
    conv=>whnf
    all_goals first | rfl | exact zaj hm' rfl rfl
 conv=>whnf
 refine zaj hm' rfl ?_;conv=>whnf
 (refine zao [(0,163)]  ?_;(conv=>whnf);refine dO (zhh s.sched { m with mid:=midOf s m } (many s m) (ovr s m) (by omega) mf.lo mh) ?_)
 refine sD ?_
 refine zaj hm' rfl ?_;conv=>whnf
 refine zaj hm' rfl ?_;conv=>whnf
 refine zaj hm' rfl ?_;conv=>whnf
 refine zaj hm' rfl ?_;conv=>whnf
 refine zaa (c:=((s.out.map Sent.row).length+1) * 200 <= 140737488355328) (by rw [List.length_map];omega) ?_;conv=>whnf
 refine sD ?_
 refine sR ?_
 refine zaj hm' rfl ?_;conv=>whnf
 refine zam (z:=m.sent+many s m) hWs ?_;conv=>whnf
 refine zaj hm' rfl ?_;conv=>whnf
 refine zbj rfl (by simp [midS];omega) ?_;conv=>whnf
 refine sR ?_
 refine zbj rfl (by simp [midS];omega) ?_;conv=>whnf
 refine zbc (z':=(s.out.length:Int)) ?_ ?_
 . show W ((((midS s k m).out.map Sent.row++[_]).length:Int) - 1)=_
   rw [List.length_append,List.length_map,show (midS s k m).out=s.out from rfl,W_fit (by simp only [List.length_cons,List.length_nil];omega) (by simp only [List.length_cons,List.length_nil];omega)]
   simp only [List.length_cons,List.length_nil];omega
 conv=>whnf
 refine zaa (by rw [List.length_append,List.length_map,show (midS s k m).out=s.out from rfl];simp only [List.length_cons,List.length_nil];omega) ?_;conv=>whnf
 (refine zae [] [(1000,1000),(1001,1001),(1002,163),(1003,199),(1004,1004),(1005,1005),(1006,1006),(1007,1007),(1008,1008),(1009,1009)] [(0,920)] ?_;(conv=>whnf);refine dG (zkn (s2 s k m) a b s.out.length (x0 s m) w (by simp [s2]) hw (by omega)) ?_ ⟨rfl,rfl,rfl,⟨⟨rfl,_,rfl,.inl ⟨rfl,rfl⟩⟩,⟨⟨rfl,_,rfl,.inl ⟨rfl,q2row⟩⟩,⟨⟨rfl,_,rfl,.inl ⟨rfl,rfl⟩⟩,⟨⟨rfl,_,rfl,.inl ⟨rfl,(zau (f:=Sent.row) (x:=x0 s m) rfl rfl)⟩⟩,⟨⟨rfl,_,rfl,.inl ⟨rfl,rfl⟩⟩,⟨⟨rfl,_,rfl,.inl ⟨rfl,rfl⟩⟩,⟨⟨rfl,_,rfl,.inl ⟨rfl,rfl⟩⟩,⟨⟨rfl,_,rfl,.inl ⟨rfl,rfl⟩⟩,⟨⟨rfl,_,rfl,.inl ⟨rfl,rfl⟩⟩,⟨⟨rfl,_,rfl,.inl ⟨rfl,rfl⟩⟩,trivial⟩⟩⟩⟩⟩⟩⟩⟩⟩⟩,⟨⟨rfl,rfl⟩,trivial⟩,rfl,rfl,rfl⟩)
 refine sD ?_
 cases hov:ovr s m with
 | true =>
  refine zac ?_ ?_
  . exact hov
  conv=>whnf
  repeat (refine hcut.go ?_;conv=>whnf)
  refine zbc (z':=((k+1:Nat):Int)) ?_ ?_
  . show W ((k:Int)+1)=_
    rw [W_fit (by omega) (by omega)];push_cast;rfl
  conv=>whnf
  (refine zae [] [(1000,1001)] [(0,930)] ?_;(conv=>whnf);refine dG (delq (s.queue.set k (m2 s m)) k (k+1) (by omega) (by simp;omega) (by simp;omega)) ?_)
  rw [zdx hc0 hw rfl,if_pos hov] at hG
  subst hG
  (exact zby (pK10 [(0,some 930),(1,some 163),(2,some 199),(3,some 1004),(4,some 1005),(5,some 1006),(6,some 920),(7,some 1009)]) (by repeat' (first | exact z0 | refine z1 ?_ | refine ⟨?_,?_⟩ | ((exact zan (by rw [zhi hkl]))) | exact z2)))
 | false =>
  refine zab ?_ ?_
  . exact hov
  conv=>whnf
  repeat (refine hcut.go ?_;conv=>whnf)
  rw [zdx hc0 hw rfl,if_neg (by rw [hov];decide)] at hG
  subst hG
  (exact zbn (pK10 [(0,some 1001),(1,some 163),(2,some 199),(3,some 1004),(4,some 1005),(5,some 1006),(6,some 920),(7,some 1009)]))):P:=h
theorem yy16 {P:Prop} (h:P:=by
 subst hG
 repeat (refine hcut.go ?_;conv=>whnf)
 (exact zbn (pK10 [(0,some 1001),(1,some 1002),(2,some 1003),(3,some 1004),(4,some 1005),(5,some 1006),(6,some 1008),(7,some 1009)]))):P:=h
theorem yy1 {P:Prop} (h:P:=by
 refine zaj hm rfl ?_;conv=>whnf
 refine zam (z:=m.sent+many s m) hWs ?_;conv=>whnf
 refine zaj hm rfl ?_;conv=>whnf
 refine sD ?_
 have hm':(midS s k m).queue[k]?=some { m with mid:=midOf s m }:=by show (s.queue.set k _)[k]?=_;rw [List.getElem?_set_self hkl]
 have hmr:(s.queue.map Queued.row)[k]?=some m.row:=by rw [List.getElem?_map,hm];rfl
 (refine cL ?_;refine dL (zcg s.next) ?_)
 refine zaj hm rfl ?_;conv=>whnf
 (refine zae [] [(1000,1000),(1001,1001),(1002,1002),(1003,1003),(1004,1004),(1005,1005),(1006,1006),(1007,1007),(1008,1008),(1009,1009)] [] ?_;(conv=>whnf);refine dG (zlm s a b k m hm mf) ?_)
 (refine cL ?_;refine dL (zcg (midOf s m)) ?_)
 refine zaj hm' rfl ?_;conv=>whnf
 refine zaj hm' rfl ?_;conv=>whnf
 refine zaj hm' rfl ?_;conv=>whnf
 refine zaj hm' rfl ?_;conv=>whnf
 refine zaj hm' rfl ?_;conv=>whnf
 refine zam (z:=m.sent+many s m) hWs ?_;conv=>whnf
 refine zaa (c:=0 <= m.sent /\ m.sent <= m.sent+many s m /\ m.sent+many s m <= ((m.message.data.map bRow).length:Int)) ⟨ms,by omega,by rw [List.length_map];omega⟩ ?_;conv=>whnf
 refine zev (o':=m.sent.toNat) (n':=(many s m).toNat) rfl (show (m.sent+many s m - m.sent).toNat=(many s m).toNat by rw [show m.sent+many s m - m.sent=many s m by omega]) ?_
 refine zee (f:=bRow) (l:=m.message.data) (o:=m.sent.toNat) (n:=(many s m).toNat) (by omega) ?_
 conv=>whnf
 (refine zao [(0,150)]  ?_;(conv=>whnf);refine dO (Cl.zcf ((m.message.data.drop m.sent.toNat).take (many s m).toNat) (by simp;omega)) ?_)
 refine zgj [4,10,18,24,29,33,37] ?_ ?_ ?_
 . kernel_rfl
 . refine ⟨?_,?_,?_,?_,?_,?_,?_,trivial⟩
   all_goals
    refine And.intro trivial ?_
    refine And.intro trivial ?_
    refine And.intro ?_ trivial
    conv=>whnf
    refine And.intro ?_ ?_
    . conv=>whnf
      all_goals first | rfl | exact zaj hm rfl rfl
    refine And.intro ?_ trivial
    conv=>whnf
    all_goals first | rfl | exact zaj hm' rfl rfl
 conv=>whnf
 refine zaj hm' rfl ?_;conv=>whnf
 (refine zao [(0,163)]  ?_;(conv=>whnf);refine dO (zhh s.sched { m with mid:=midOf s m } (many s m) (ovr s m) (by omega) mf.lo mh) ?_)
 refine sD ?_
 refine zaj hm' rfl ?_;conv=>whnf
 refine zaj hm' rfl ?_;conv=>whnf
 refine zaj hm' rfl ?_;conv=>whnf
 refine zaj hm' rfl ?_;conv=>whnf
 refine zaa (c:=((s.out.map Sent.row).length+1) * 200 <= 140737488355328) (by rw [List.length_map];omega) ?_;conv=>whnf
 refine sD ?_
 refine sR ?_
 refine zaj hm' rfl ?_;conv=>whnf
 refine zam (z:=m.sent+many s m) hWs ?_;conv=>whnf
 refine zaj hm' rfl ?_;conv=>whnf
 refine zbj rfl (by simp [midS];omega) ?_;conv=>whnf
 refine sR ?_
 refine zbj rfl (by simp [midS];omega) ?_;conv=>whnf
 refine zbc (z':=(s.out.length:Int)) ?_ ?_
 . show W ((((midS s k m).out.map Sent.row++[_]).length:Int) - 1)=_
   rw [List.length_append,List.length_map,show (midS s k m).out=s.out from rfl,W_fit (by simp only [List.length_cons,List.length_nil];omega) (by simp only [List.length_cons,List.length_nil];omega)]
   simp only [List.length_cons,List.length_nil];omega
 conv=>whnf
 refine zaa (by rw [List.length_append,List.length_map,show (midS s k m).out=s.out from rfl];simp only [List.length_cons,List.length_nil];omega) ?_;conv=>whnf
 (refine zae [] [(1000,1000),(1001,1001),(1002,163),(1003,199),(1004,1004),(1005,1005),(1006,1006),(1007,1007),(1008,1008),(1009,1009)] [(0,920)] ?_;(conv=>whnf);refine dG (zko (s2 s k m) a b s.out.length (x0 s m) w (by simp [s2]) hw (by omega)) ?_ ⟨rfl,rfl,rfl,⟨⟨rfl,_,rfl,.inl ⟨rfl,rfl⟩⟩,⟨⟨rfl,_,rfl,.inl ⟨rfl,q2row⟩⟩,⟨⟨rfl,_,rfl,.inl ⟨rfl,rfl⟩⟩,⟨⟨rfl,_,rfl,.inl ⟨rfl,(zau (f:=Sent.row) (x:=x0 s m) rfl rfl)⟩⟩,⟨⟨rfl,_,rfl,.inl ⟨rfl,rfl⟩⟩,⟨⟨rfl,_,rfl,.inl ⟨rfl,rfl⟩⟩,⟨⟨rfl,_,rfl,.inl ⟨rfl,rfl⟩⟩,⟨⟨rfl,_,rfl,.inl ⟨rfl,rfl⟩⟩,⟨⟨rfl,_,rfl,.inl ⟨rfl,rfl⟩⟩,⟨⟨rfl,_,rfl,.inl ⟨rfl,rfl⟩⟩,trivial⟩⟩⟩⟩⟩⟩⟩⟩⟩⟩,⟨⟨rfl,rfl⟩,trivial⟩,rfl,rfl,rfl⟩)
 refine sD ?_
 cases hov:ovr s m with
 | true =>
  refine zac ?_ ?_
  . exact hov
  conv=>whnf
  repeat (refine hcut.go ?_;conv=>whnf)
  refine zbc (z':=((k+1:Nat):Int)) ?_ ?_
  . show W ((k:Int)+1)=_
    rw [W_fit (by omega) (by omega)];push_cast;rfl
  conv=>whnf
  (refine zae [] [(1000,1001)] [(0,930)] ?_;(conv=>whnf);refine dG (delq (s.queue.set k (m2 s m)) k (k+1) (by omega) (by simp;omega) (by simp;omega)) ?_)
  rw [zdx hc0 hw rfl,if_pos hov] at hG
  subst hG
  (exact zby (pK10 [(0,some 930),(1,some 163),(2,some 199),(3,some 1004),(4,some 1005),(5,some 1006),(6,some 1008),(7,some 920)]) (by repeat' (first | exact z0 | refine z1 ?_ | refine ⟨?_,?_⟩ | ((exact zan (by rw [zhi hkl]))) | exact z2)))
 | false =>
  refine zab ?_ ?_
  . exact hov
  conv=>whnf
  repeat (refine hcut.go ?_;conv=>whnf)
  rw [zdx hc0 hw rfl,if_neg (by rw [hov];decide)] at hG
  subst hG
  (exact zbn (pK10 [(0,some 1001),(1,some 163),(2,some 199),(3,some 1004),(4,some 1005),(5,some 1006),(6,some 1008),(7,some 920)]))):P:=h
theorem yy19 {P:Prop} (h:P:=by
 rw [if_neg ho] at hP
 refine zab ?_ ?_
 . simpa using ho
 conv=>whnf
 repeat (refine hcut.go ?_;conv=>whnf)
 refine zaa (c:=(0:Int) <= room1 s.config.packet B /\ room1 s.config.packet B <= ((B.map Chunk.row).length:Int) /\ ((B.map Chunk.row).length:Int) <= ((B.map Chunk.row).length:Int)) ⟨by omega,by rw [List.length_map];omega,by omega⟩ ?_;conv=>whnf
 obtain ⟨x,B1,hx⟩:∃ x B1,B.take r=x :: B1:=by
  cases hq:B.take r with
  | nil=>rw [List.take_eq_nil_iff] at hq;rcases hq with hq | hq;omega;exact absurd hq hB
  | cons x B1=>exact ⟨x,B1,rfl⟩
 have hxl:B1.length+1=r:=by have:=congrArg List.length hx;simp at this;omega
 refine hQ2 _ _ ?_;conv=>whnf
 exact ⟨⟨((x :: B1,B.drop r),n,acc),by rw [<- hx,List.take_append_drop],by simp;omega,by simp;omega,by rw [<- i3,hP];simp⟩,(hle_Y (pK10 [(900,some 900)]) (by repeat' (first | exact z0 | refine z1 ?_ | refine ⟨?_,?_⟩ | ((exact zfj (show B1.length+1=(room1 s.config.packet B).toNat by omega) (show (B.drop r).length=(((B.map Chunk.row).length:Int) - room1 s.config.packet B).toNat by simp;omega))) | ((exact zau (f:=Packet.row) rfl rfl)) | exact z2))),by simp;omega⟩):P:=h
theorem yy34 {P:Prop} (h:P:=by
 cases hq:B.take r with
 | nil=>rw [List.take_eq_nil_iff] at hq;rcases hq with hq | hq;omega;exact absurd hq hB
 | cons x B1=>exact ⟨x,B1,rfl⟩):P:=h
theorem yy49 {P:Prop} (h:P:=by
 refine hQ2 _ _ ?_;conv=>whnf
 exact ⟨⟨((t :: (A++B.take r),B.drop r),n,acc),by rw [i1];simp,by simp;omega,by simp;omega,by rw [<- i3,hP];simp⟩,(hle_Y (pK10 [(900,some 900)]) (by repeat' (first | exact z0 | refine z1 ?_ | refine ⟨?_,?_⟩ | ((exact zfj (show (A++B.take r).length+1=A.length+1+(room1 s.config.packet B).toNat by simp;omega) (show (B.drop r).length=B.length - (room1 s.config.packet B).toNat by simp;omega))) | ((exact zau (f:=Packet.row) rfl rfl)) | exact z2))),by simp;omega⟩):P:=h
theorem yy85 {P:Prop} (h:P:=by
 conv=>whnf
 repeat (refine hcut.go ?_;conv=>whnf)
 refine hQ2 _ _ ?_;conv=>whnf
 refine sF ?_
 refine hQ _ _ ?_;conv=>whnf
 exact ⟨⟨(0+1,acc),by dsimp only;omega,by dsimp only;rw [List.length_nil] at i4;omega,i3⟩,(hle_P (pK10 [(900,some 900)])),by dsimp only;omega⟩):P:=h
theorem yy86 {P:Prop} (h:P:=by
 conv=>whnf
 repeat (refine hcut.go ?_;conv=>whnf)
 refine hQ2 _ _ ?_;conv=>whnf
 refine sF ?_
 refine hQ _ _ ?_;conv=>whnf
 exact ⟨⟨(1+1,acc),by dsimp only;omega,by dsimp only;rw [List.length_nil] at i4;omega,i3⟩,(hle_P (pK10 [(900,some 900)])),by dsimp only;omega⟩):P:=h
theorem yy87 {P:Prop} (h:P:=by
 conv=>whnf
 repeat (refine hcut.go ?_;conv=>whnf)
 refine hQ2 _ _ ?_;conv=>whnf
 refine sF ?_
 refine hQ _ _ ?_;conv=>whnf
 exact ⟨⟨(0+1,acc),by dsimp only;omega,by dsimp only;rw [List.length_nil] at i4;omega,i3⟩,(hle_P (pK9 [(900,some 900)])),by dsimp only;omega⟩):P:=h
theorem yy132 {P:Prop} (h:P:=by
 subst h ho hn
 refine ⟨_,rfl,by simp,?_⟩
 rwa [<- List.map_drop,<- List.map_take,List.append_assoc,List.drop_left,List.take_left]):P:=h
theorem yy138 {P:Prop} (h:P:=by
 split
 . obtain ⟨k,hk⟩:∃ k:Nat,m.id=k:=⟨m.id.toNat,by omega⟩
   rw [hk];exact ymk h (by omega)
 . exact h):P:=h
theorem yy29 {P:Prop} (h:P:=by
 refine zgj [3] ?_ ?_ ?_
 . kernel_rfl
 . refine ⟨?_,trivial⟩
   refine And.intro trivial ?_
   refine And.intro trivial ?_
   refine And.intro ?_ trivial
   conv=>whnf
   refine And.intro ?_ ?_
   . conv=>whnf
   refine And.intro ?_ trivial
   conv=>whnf
   all_goals first | rfl | trace_state
 conv=>whnf
 refine zak [(0,some 900),(1,some 901),(2,some 902),(3,some 903),(4,some 904),(5,some 905),(6,some 970)] rfl rfl trivial rfl rfl ⟨⟨rfl,.inl ⟨900,rfl,rfl⟩⟩,⟨rfl,.inl ⟨901,rfl,rfl⟩⟩,⟨rfl,.inl ⟨902,rfl,rfl⟩⟩,⟨rfl,.inl ⟨903,rfl,?_⟩⟩,⟨rfl,.inl ⟨904,rfl,rfl⟩⟩,⟨rfl,.inl ⟨905,rfl,rfl⟩⟩,⟨rfl,.inl ⟨970,rfl,?_⟩⟩,trivial⟩
 . exact zan (by rw [List.append_nil,woken,hN,h])
 . exact zan (by rw [show t.config=s.config from k2.config])):P:=h
theorem yy36 {P:Prop} (h:P:=by
 refine sF ?_
 exact ⟨⟨(A++[p],B),zag h⟩,(hle_X ((2,some 2) :: ((16,some 16) :: ((14,some 14) :: (pJ7 [])))) (by repeat' (first | exact z0 | refine z1 ?_ | refine ⟨?_,?_⟩ | ((exact zan (by rw [zen,d6]))) | exact z2))),by simp⟩):P:=h
theorem yy37 {P:Prop} (h:P:=by
 refine sF ?_
 exact ⟨⟨(A++[p],B),zag h⟩,(hle_X ((2,some 2) :: ((16,some 16) :: ((14,some 14) :: (pJ8 [])))) (by repeat' (first | exact z0 | refine z1 ?_ | refine ⟨?_,?_⟩ | ((exact zan (by rw [zen,d6]))) | exact z2))),by simp⟩):P:=h
theorem yy59 {P:Prop} (h:P:=by
 refine zah (a:=A.map (wake t N)) (b:=B) (s:=p) rfl (by simp) ?_;conv=>whnf
 refine sF ?_
 exact ⟨⟨(A++[p],B),zag h⟩,(hle_X ((2,some 2) :: ((16,some 16) :: ((14,some 14) :: (pJ7 [])))) (by repeat' (first | exact z0 | refine z1 ?_ | refine ⟨?_,?_⟩ | ((rw [zen,d6];refine Eq.symm (zcw (a:=A.map (wake t N)) (b:=B) ?_ ?_);all_goals first | rfl | (simp;done))) | exact z2))),by simp⟩):P:=h
theorem yy60 {P:Prop} (h:P:=by
 refine zah (a:=A.map (wake t N)) (b:=B) (s:=p) rfl (by simp) ?_;conv=>whnf
 refine sF ?_
 exact ⟨⟨(A++[p],B),zag h⟩,(hle_X ((2,some 2) :: ((16,some 16) :: ((14,some 14) :: (pJ8 [])))) (by repeat' (first | exact z0 | refine z1 ?_ | refine ⟨?_,?_⟩ | ((rw [zen,d6];refine Eq.symm (zcw (a:=A.map (wake t N)) (b:=B) ?_ ?_);all_goals first | rfl | (simp;done))) | exact z2))),by simp⟩):P:=h
namespace Go.HL
namespace Chk
theorem ymf:∀ l:List UInt8,l=[] \/ (∃ a,l=[a]) \/ (∃ a b,l=[a,b]) \/ (∃ a b c,l=[a,b,c]) \/ (∃ a b c d,l=[a,b,c,d]) \/ (∃ a b c d e,l=[a,b,c,d,e]) \/ (∃ a b c d e f,l=[a,b,c,d,e,f]) \/ ∃ a b c d e f g r,l=a :: b :: c :: d :: e :: f :: g :: r
 | []=>by simp
 | [a]=>by simp
 | [a,b]=>by simp
 | [a,b,c]=>by simp
 | [a,b,c,d]=>by simp
 | [a,b,c,d,e]=>by simp
 | [a,b,c,d,e,f]=>by simp
 | a :: b :: c :: d :: e :: f :: g :: r=>by simp
theorem zyx {l:List UInt8} {ok:Bool} (h:(two l ok).2.2=true):ok=true /\ ∃ a b,l=a :: b :: (two l ok).2.1 /\ (two l ok).1=dec16 a b:=by
 match l,h with
 | x :: y :: r,h=>exact ⟨h,x,y,rfl,rfl⟩
 | [x],h=>cases h
 | [],h=>cases h
theorem zit (l:List UInt8) (ok:Bool):(two l ok).2.1.length <= l.length - 2:=by
 match l with
 | x :: y :: r=>simp [two]
 | [x]=>simp [two]
 | []=>simp [two]
theorem zqh {l:List UInt8} {ok:Bool} (h:(two l ok).2.2=false):ok=false \/ l.length < 2:=by
 match l,h with
 | x :: y :: r,h=>exact .inl h
 | [x],h=>exact .inr (by simp)
 | [],h=>exact .inr (by simp)
theorem bad2 {s:List UInt8} (h:s.length < 4 \/ s.length % 4 ≠ 0):(zcb 2 s).2=false:=by
 unfold zcb
 (repeat' split) <;> first | rfl | (exfalso;omega)
structure I2 (s:List UInt8) (tag room:Int) (l:List UInt8) (ok:Bool) (acc:List Span):Prop where
 good:ok=true -> 4 <= s.length /\ acc++zcx l=zcx (s.drop 4) /\ l.length % 4=s.length % 4 /\ tag=at16 s 0 /\ room=at16 s 2
 bad:ok=false -> (zcb 2 s).2=false
 len:acc.length+l.length <= 256
theorem I2.start {s:List UInt8} (hs:s.length <= 256):I2 s (two s true).1 (two (two s true).2.1 (two s true).2.2).1 (two (two s true).2.1 (two s true).2.2).2.1 (two (two s true).2.1 (two s true).2.2).2.2 []:=by
 refine ⟨fun h=>?_,fun h=>?_,?_⟩
 . obtain ⟨h1,c,d,h2,h3⟩:=zyx h
   obtain ⟨_,a,b,h4,h5⟩:=zyx h1
   generalize (two (two s true).2.1 (two s true).2.2).2.1=r at *
   rw [h2] at h4
   subst h4
   refine ⟨by simp,by simp,by simp;omega,h5.trans rfl,h3.trans rfl⟩
 . refine bad2 ?_
   rcases zqh h with h1 | h1
   . rcases zqh h1 with h2 | h2
     . cases h2
     . left;omega
   . have:s.length <= (two s true).2.1.length+2:=by
      match s with
      | x :: y :: r=>simp [two]
      | [x]=>simp
      | []=>simp
     left;omega
 . have h1:=zit s true
   have h2:=zit (two s true).2.1 (two s true).2.2
   simp only [List.length_nil];omega
theorem I2.next {s l:List UInt8} {tag room:Int} {ok:Bool} {acc:List Span} (h:I2 s tag room l ok acc) (hl:0 < l.length) :
 I2 s tag room (two (two l ok).2.1 (two l ok).2.2).2.1 (two (two l ok).2.1 (two l ok).2.2).2.2 (acc++[⟨(two l ok).1,(two (two l ok).2.1 (two l ok).2.2).1⟩]):=by
 have g1:=zit l ok
 have g2:=zit (two l ok).2.1 (two l ok).2.2
 refine ⟨fun h2=>?_,fun h2=>?_,?_⟩
 . obtain ⟨h3,c,d,h4,h5⟩:=zyx h2
   obtain ⟨h6,a,b,h7,h8⟩:=zyx h3
   obtain ⟨i1,i2,i3,i4,i5⟩:=h.good h6
   refine ⟨i1,?_,?_,i4,i5⟩
   . rw [<- i2,h8,h5,List.append_assoc]
     congr 1
     generalize (two (two l ok).2.1 (two l ok).2.2).2.1=r at *
     rw [h7,h4]
     rfl
   . rw [<- i3]
     generalize (two (two l ok).2.1 (two l ok).2.2).2.1=r at *
     rw [h7,h4];simp;omega
 . cases hok:ok with
   | false=>exact h.bad hok
   | true =>
    obtain ⟨i1,i2,i3,i4,i5⟩:=h.good hok
    refine bad2 (.inr ?_)
    rw [<- i3]
    have hlen:l.length < 4:=by
     rcases zqh h2 with h3 | h3
     . rcases zqh h3 with h4 | h4
       . rw [hok] at h4;cases h4
       . omega
     . have:l.length <= (two l ok).2.1.length+2:=by
        match l with
        | x :: y :: r=>simp [two]
        | [x]=>simp
        | []=>simp
       omega
    omega
 . have:=h.len
   simp only [List.length_append,List.length_cons,List.length_nil];omega
theorem I2.done {s:List UInt8} {tag room:Int} {acc:List Span} (h:I2 s tag room [] true acc):zcb 2 s=(⟨2,tag,0,0,0,false,false,[],acc,room,[]⟩,true):=by
 obtain ⟨i1,i2,i3,i4,i5⟩:=h.good rfl
 simp only [zcx,List.append_nil] at i2
 unfold zcb
 rw [if_neg (by omega),if_neg (by decide),if_pos rfl,if_neg (by simp at i3;omega),i2,i4,i5]
 rfl
theorem bad3 {kind:Int} {s:List UInt8} (k1:¬ kind=1) (k2:¬ kind=2) (h:s.length < 2 \/ s.length % 4 ≠ 2 \/ (zbr (s.drop 2)).2=false):(zcb kind s).2=false:=by
 unfold zcb
 rcases h with h | h | h
 . (repeat' split) <;> first | rfl | (exfalso;omega)
 . (repeat' split) <;> first | rfl | (exfalso;omega)
 . (repeat' split) <;> first | rfl | (exfalso;omega) | exact h
theorem ymg (l:List UInt8) (ok:Bool):(one l ok).2.1.length=l.length - 1:=by
 match l with
 | x :: r=>simp [one]
 | []=>simp [one]
structure I3 (kind:Int) (s:List UInt8) (tag:Int) (l:List UInt8) (ok:Bool) (acc:List Skip):Prop where
 good:ok=true -> 2 <= s.length /\ zbr (s.drop 2)=(acc++(zbr l).1,(zbr l).2) /\ l.length % 4=(s.length - 2) % 4 /\ tag=at16 s 0
 bad:ok=false -> (zcb kind s).2=false
 len:acc.length+l.length <= 256
theorem I3.start {kind:Int} {s:List UInt8} (k1:¬ kind=1) (k2:¬ kind=2) (hs:s.length <= 256):I3 kind s (two s true).1 (two s true).2.1 (two s true).2.2 []:=by
 refine ⟨fun h=>?_,fun h=>?_,?_⟩
 . obtain ⟨_,a,b,h4,h5⟩:=zyx h
   generalize (two s true).2.1=r at *
   subst h4
   exact ⟨by simp,by simp,by simp,h5.trans rfl⟩
 . refine bad3 k1 k2 ?_
   rcases zqh h with h1 | h1
   . cases h1
   . exact .inl h1
 . have h1:=zit s true
   simp only [List.length_nil];omega
theorem I3.less {l:List UInt8} {ok:Bool} (hl:0 < l.length):(two (one (one l ok).2.1 (one l ok).2.2).2.1 (one (one l ok).2.1 (one l ok).2.2).2.2).2.1.length < l.length:=by
 have h1:=zit (one (one l ok).2.1 (one l ok).2.2).2.1 (one (one l ok).2.1 (one l ok).2.2).2.2
 have h2:=ymg l ok
 have h3:=ymg (one l ok).2.1 (one l ok).2.2
 omega
theorem I3.next {kind:Int} {s l:List UInt8} {tag:Int} {ok:Bool} {acc:List Skip} (h:I3 kind s tag l ok acc) (k1:¬ kind=1) (k2:¬ kind=2) (hl:0 < l.length) :
 ((one (one l ok).2.1 (one l ok).2.2).1 > 1 -> I3 kind s tag (two (one (one l ok).2.1 (one l ok).2.2).2.1 (one (one l ok).2.1 (one l ok).2.2).2.2).2.1 false (acc++[⟨(one l ok).1,(two (one (one l ok).2.1 (one l ok).2.2).2.1 (one (one l ok).2.1 (one l ok).2.2).2.2).1,(one (one l ok).2.1 (one l ok).2.2).1 == 1⟩])) /\
 (¬ (one (one l ok).2.1 (one l ok).2.2).1 > 1 -> I3 kind s tag (two (one (one l ok).2.1 (one l ok).2.2).2.1 (one (one l ok).2.1 (one l ok).2.2).2.2).2.1 (two (one (one l ok).2.1 (one l ok).2.2).2.1 (one (one l ok).2.1 (one l ok).2.2).2.2).2.2
  (acc++[⟨(one l ok).1,(two (one (one l ok).2.1 (one l ok).2.2).2.1 (one (one l ok).2.1 (one l ok).2.2).2.2).1,(one (one l ok).2.1 (one l ok).2.2).1 == 1⟩])):=by
 have hlen:=h.len
 have hless:=I3.less (ok:=ok) hl
 match l,hl with
 | [x],_ =>
  have hbad:(zcb kind s).2=false:=by
   cases hok:ok with
   | false=>exact h.bad hok
   | true =>
    obtain ⟨i1,i2,i3,i4⟩:=h.good hok
    exact bad3 k1 k2 (.inr (.inl (by simp at i3;omega)))
  refine ⟨fun h2=>absurd h2 (by simp [one]),fun _=>⟨fun h2=>(by cases h2),fun _=>hbad,by simp [one,two] at hlen ⊢;omega⟩⟩
 | [x,y],_ =>
  exact yy68
 | [x,y,z],_ =>
  exact yy68
 | x :: y :: z :: w :: r,_ =>
  simp only [one,two]
  have hbeq:((y.toNat:Int) == 1)=(y.toNat == 1):=by
   rcases Nat.decEq y.toNat 1 with h | h
   . rw [show ((y.toNat:Int) == 1)=false from by simpa using (by omega:¬ (y.toNat:Int)=1),show (y.toNat == 1)=false from by simpa using h]
   . rw [h];rfl
  refine ⟨fun h2=>⟨fun h3=>(by cases h3),fun _=>?_,by simp at hlen ⊢;omega⟩,fun h2=>⟨fun hok=>?_,fun hok=>h.bad hok,by simp at hlen ⊢;omega⟩⟩
  . cases hok:ok with
    | false=>exact h.bad hok
    | true =>
     obtain ⟨i1,i2,i3,i4⟩:=h.good hok
     refine bad3 k1 k2 (.inr (.inr ?_))
     rw [i2]
     show (zbr (x :: y :: z :: w :: r)).2=false
     rw [zbr,if_pos (by omega)]
  . obtain ⟨i1,i2,i3,i4⟩:=h.good hok
    refine ⟨i1,?_,by rw [<- i3];simp only [List.length_cons];omega,i4⟩
    rw [i2,zbr,if_neg (by omega),hbeq]
    simp
theorem I3.done {kind:Int} {s:List UInt8} {tag:Int} {acc:List Skip} (k1:¬ kind=1) (k2:¬ kind=2) (h:I3 kind s tag [] true acc):zcb kind s=(⟨kind,tag,0,0,0,false,false,[],[],0,acc⟩,true):=by
 obtain ⟨i1,i2,i3,i4⟩:=h.good rfl
 simp only [zbr,List.append_nil] at i2
 unfold zcb
 rw [if_neg (by omega),if_neg k1,if_neg k2,if_neg (by simp at i3;omega),i2,i4]
 rfl
theorem ycr (b:List UInt8) (hb:b.length < 2 ^ 39):FunOK Tryz.prog 172 [byts b] zad (.tup [(parse b).1.hv,i64 (parse b).2.1,i64 (parse b).2.2]) zad:=by
 refine zai mixed Tryz.func172 (by decide) ?_
 have hl:(b.map bRow).length=b.length:=by simp
 have hb1:=(b[1]?.getD 0).toNat_lt
 conv=>whnf
 refine zaf (fun c1=>?_) (fun c1=>?_)
 . have c1:(b.length:Int) < 2:=by simpa using c1
   rw [parse,if_pos (.inl (by omega))]
   conv=>whnf
   rfl
 have c1:¬ (b.length:Int) < 2:=by simpa using c1
 conv=>whnf
 refine zfx 1 rfl (by omega) ?_;conv=>whnf
 refine zam (zie _) ?_;conv=>whnf
 refine zam (z:=((b.map bRow).length:Int) - 2) (W_fit (by omega) (by omega)) ?_;conv=>whnf
 refine zaf (fun c2=>?_) (fun c2=>?_)
 . have c2:((b[1]?.getD 0).toNat:Int) > ((b.map bRow).length:Int) - 2:=of_decide_eq_true c2
   rw [parse,if_pos (.inr (by omega))]
   conv=>whnf
   rfl
 have c2:¬ ((b[1]?.getD 0).toNat:Int) > ((b.map bRow).length:Int) - 2:=of_decide_eq_false c2
 rw [parse,if_neg (by omega)]
 conv=>whnf
 refine zfx 0 rfl (by omega) ?_;conv=>whnf
 refine zaf (fun c3=>?_) (fun c3=>?_)
 . have c3:((b[0]?.getD 0).toNat:Int) < 1:=of_decide_eq_true c3
   rw [if_pos (.inl (by omega))]
   conv=>whnf
   rfl
 have c3:¬ ((b[0]?.getD 0).toNat:Int) < 1:=of_decide_eq_false c3
 conv=>whnf
 refine zfx 0 rfl (by omega) ?_;conv=>whnf
 refine zaf (fun c4=>?_) (fun c4=>?_)
 . have c4:((b[0]?.getD 0).toNat:Int) > 3:=of_decide_eq_true c4
   rw [if_pos (.inr (by omega))]
   conv=>whnf
   rfl
 have c4:¬ ((b[0]?.getD 0).toNat:Int) > 3:=of_decide_eq_false c4
 rw [if_neg (by omega)]
 conv=>whnf
 refine zfx 1 rfl (by omega) ?_;conv=>whnf
 refine zam (zie _) ?_;conv=>whnf
 refine zam (z:=2+((b[1]?.getD 0).toNat:Int)) (W_fit (by omega) (by omega)) ?_;conv=>whnf
 refine zaa (by omega) ?_;conv=>whnf
 refine zev (o':=2) (n':=(b[1]?.getD 0).toNat) rfl (by omega) ?_
 refine zee (l:=b) (by omega) ?_
 have hlen:((b.drop 2).take (b[1]?.getD 0).toNat).length <= 256:=by simp;omega
 generalize hsub:(b.drop 2).take (b[1]?.getD 0).toNat=s at hlen ⊢
 conv=>whnf
 refine zfx 0 rfl (by omega) ?_;conv=>whnf
 refine zam (zie _) ?_;conv=>whnf
 refine zae [] [(1000,46)] [] ?_;conv=>whnf
 refine ⟨_,_,_,_,zhu s true,⟨rfl,rfl,rfl,⟨⟨rfl,_,rfl,.inl ⟨rfl,rfl⟩⟩,trivial⟩,trivial,rfl,rfl,rfl⟩,?_⟩
 conv=>whnf
 refine zap ?_ ?_
 . kernel_rfl
 conv=>whnf
 generalize ((b[0]?.getD 0).toNat:Int)=kind at *
 refine hcut.go ?_;conv=>whnf
 refine zaf (fun k1=>?_) (fun k1=>?_)
 . have k1:kind=1:=by simpa using k1
   subst k1
   by_cases h7:s.length < 7
   . have hbad:(zcb 1 s).2=false:=by
      unfold zcb;split
      . rfl
      . rw [if_pos rfl,if_pos (.inl h7)]
     rw [if_pos hbad]
     rcases ymf s with rfl | ⟨x0,rfl⟩ | ⟨x0,x1,rfl⟩ | ⟨x0,x1,x2,rfl⟩ | ⟨x0,x1,x2,x3,rfl⟩ | ⟨x0,x1,x2,x3,x4,rfl⟩ | ⟨x0,x1,x2,x3,x4,x5,rfl⟩ | ⟨x0,x1,x2,x3,x4,x5,x6,r,rfl⟩
     case inr.inr.inr.inr.inr.inr.inr=>simp at h7;omega
     all_goals
      conv=>whnf
      (repeat' (first | (refine zbp ?_;conv=>whnf) | (refine zaa ?_ ?_;(first | kernel_rfl | decide);conv=>whnf) | (refine zap ?_ ?_;kernel_rfl;conv=>whnf) | (refine hcut.go ?_;conv=>whnf) | (refine zae [] [(1000,46)]   []  ?_;(conv=>whnf);refine ⟨_,_,_,_, zjm _ _,⟨rfl,rfl,rfl,⟨⟨rfl,_,rfl,.inl ⟨rfl,rfl⟩⟩,trivial⟩,trivial,rfl,rfl,rfl⟩,?_⟩;conv=>whnf) | (refine zae [] [(1000,46)]   []  ?_;(conv=>whnf);refine ⟨_,_,_,_, zhu _ _,⟨rfl,rfl,rfl,⟨⟨rfl,_,rfl,.inl ⟨rfl,rfl⟩⟩,trivial⟩,trivial,rfl,rfl,rfl⟩,?_⟩;conv=>whnf) | (refine zaf (fun h=>?_) (fun h=>?_) <;> conv=>whnf)))
     all_goals first | rfl | (refine zaa (c:=(([]:List (List PV)).length+(([]:List UInt8).map bRow).length) * 1 <= 140737488355328) (by decide) ?_;(conv=>whnf);rfl)
   . rcases ymf s with rfl | ⟨x0,rfl⟩ | ⟨x0,x1,rfl⟩ | ⟨x0,x1,x2,rfl⟩ | ⟨x0,x1,x2,x3,rfl⟩ | ⟨x0,x1,x2,x3,x4,rfl⟩ | ⟨x0,x1,x2,x3,x4,x5,rfl⟩ | ⟨x0,x1,x2,x3,x4,x5,x6,r,rfl⟩
     case inr.inr.inr.inr.inr.inr.inr =>
      conv=>whnf
      (repeat' (first | (refine zbp ?_;conv=>whnf) | (refine zaa ?_ ?_;(first | kernel_rfl | decide);conv=>whnf) | (refine zap ?_ ?_;kernel_rfl;conv=>whnf) | (refine hcut.go ?_;conv=>whnf) | (refine zae [] [(1000,46)]   []  ?_;(conv=>whnf);refine ⟨_,_,_,_, zjm _ _,⟨rfl,rfl,rfl,⟨⟨rfl,_,rfl,.inl ⟨rfl,rfl⟩⟩,trivial⟩,trivial,rfl,rfl,rfl⟩,?_⟩;conv=>whnf) | (refine zae [] [(1000,46)]   []  ?_;(conv=>whnf);refine ⟨_,_,_,_, zhu _ _,⟨rfl,rfl,rfl,⟨⟨rfl,_,rfl,.inl ⟨rfl,rfl⟩⟩,trivial⟩,trivial,rfl,rfl,rfl⟩,?_⟩;conv=>whnf) | (refine zaf (fun h=>?_) (fun h=>?_) <;> conv=>whnf)))
      all_goals
       refine zaa (c:=(([]:List (List PV)).length+(r.map bRow).length) * 1 <= 140737488355328) (by simp at hlen ⊢;omega) ?_
       conv=>whnf
      . rename_i h
        have h:(x3.toNat:Int) > 3:=of_decide_eq_true h
        have hbad:(zcb 1 (x0 :: x1 :: x2 :: x3 :: x4 :: x5 :: x6 :: r)).2=false:=by
         unfold zcb;rw [if_neg (by simp),if_pos rfl,if_pos (.inr (by simp;omega))]
        rw [if_pos hbad]
        rfl
      . rename_i h
        have h:¬ (x3.toNat:Int) > 3:=of_decide_eq_false h
        have hbody:zcb 1 (x0 :: x1 :: x2 :: x3 :: x4 :: x5 :: x6 :: r)=(⟨1,dec16 x0 x1,x2.toNat,dec16 x4 x5,x6.toNat,(x3.toNat:Int).tmod 2 == 1,W ((x3.toNat:Int).tdiv 2) == 1,r,[],0,[]⟩,true):=by
         unfold zcb;rw [if_neg (by simp),if_pos rfl,if_neg (by simp;omega)]
         have e1:((x3.toNat:Int).tmod 2 == 1)=(x3.toNat % 2 != 0):=by
          generalize x3.toNat=n at h ⊢
          have:n <= 3:=by omega
          match n,this with
          | 0,_=>decide
          | 1,_=>decide
          | 2,_=>decide
          | 3,_=>decide
         have e2:(W ((x3.toNat:Int).tdiv 2) == 1)=(x3.toNat / 2 * 2 != 0):=by
          generalize x3.toNat=n at h ⊢
          have:n <= 3:=by omega
          match n,this with
          | 0,_=>decide
          | 1,_=>decide
          | 2,_=>decide
          | 3,_=>decide
         rw [e1,e2]
         rfl
        rw [hbody]
        refine zar ?_;conv=>whnf
        refine ⟨_,zex ⟨1,dec16 x0 x1,x2.toNat,dec16 x4 x5,x6.toNat,(x3.toNat:Int).tmod 2 == 1,W ((x3.toNat:Int).tdiv 2) == 1,r,[],0,[]⟩ (by simp) (by simp),rfl,?_⟩
        rw [if_neg (by simp)]
        generalize hw:wrong _=w
        exact yy58
     all_goals (exfalso;simp at h7)
 . have k1:¬ kind=1:=by simpa using k1
   conv=>whnf
   obtain ⟨T,hT⟩:∃ T,T=two s true:=⟨_,rfl⟩
   rw [<- hT]
   refine zaf (fun k2=>?_) (fun k2=>?_)
   . have k2:kind=2:=by simpa using k2
     subst k2
     conv=>whnf
     refine zae [] [(1000,46)] [] ?_;conv=>whnf
     refine ⟨_,_,_,_,zhu T.2.1 T.2.2,⟨rfl,rfl,rfl,⟨⟨rfl,_,rfl,.inl ⟨rfl,rfl⟩⟩,trivial⟩,trivial,rfl,rfl,rfl⟩,?_⟩
     obtain ⟨R,hR⟩:∃ R,R=two T.2.1 T.2.2:=⟨_,rfl⟩
     rw [<- hR]
     have hi:=I2.start hlen
     rw [<- hT,<- hR] at hi
     clear hT hR
     conv=>whnf
     refine ⟨{ x:List UInt8 × Bool × List Span // I2 s T.1 R.1 x.1 x.2.1 x.2.2 },fun | ⟨(l,ok,acc),_⟩=>hs 152 [(2,.ptr 2 0),(5,i64 (2+(b[1]?.getD 0).toNat)),(6,.ptr 46 0),(7,.ptr 7 0)] [(2,.live (.cells 61 yfu)),(46,rd l ok),(7,.live (.cells 61 [i64 2,i64 T.1,i64 0,i64 0,i64 0,hbool false,hbool false,hnil,.own 900,i64 R.1,hnil])),(900,.live (.row 199 2 (acc.map Span.row)))],fun x=>x.1.1.length,⟨(R.2.1,R.2.2,[]),hi⟩,?_,?_⟩
     . exact zbm [(2,some 2),(46,some 46),(7,some 7),(900,none)] rfl rfl rfl rfl ⟨⟨rfl,rfl⟩,⟨rfl,rfl⟩,⟨rfl,rfl⟩,⟨rfl,rfl⟩,trivial⟩ ⟨⟨rfl,.inl ⟨2,rfl,rfl⟩⟩,⟨rfl,.inl ⟨46,rfl,rfl⟩⟩,⟨rfl,.inl ⟨7,rfl,rfl⟩⟩,⟨rfl,.inr ⟨rfl,rfl⟩⟩,trivial⟩
     rintro ⟨⟨l,ok,acc⟩,hinv⟩
     dsimp only at hinv
     conv=>whnf
     refine zaf (fun c=>?_) (fun c=>?_)
     . have hl0:0 < l.length:=by
        have:=of_decide_eq_true c;rw [List.length_map] at this;omega
       conv=>whnf
       refine zae [] [(1000,46)] [] ?_;conv=>whnf
       refine ⟨_,_,_,_,zhu l ok,⟨rfl,rfl,rfl,⟨⟨rfl,_,rfl,.inl ⟨rfl,rfl⟩⟩,trivial⟩,trivial,rfl,rfl,rfl⟩,?_⟩
       conv=>whnf
       refine zae [] [(1000,46)] [] ?_;conv=>whnf
       refine ⟨_,_,_,_,zhu (two l ok).2.1 (two l ok).2.2,⟨rfl,rfl,rfl,⟨⟨rfl,_,rfl,.inl ⟨rfl,rfl⟩⟩,trivial⟩,trivial,rfl,rfl,rfl⟩,?_⟩
       conv=>whnf
       refine zaa (c:=((acc.map Span.row).length+1) * 16 <= 140737488355328) (by have:=hinv.len;simp;omega) ?_;conv=>whnf
       refine zap ?_ ?_
       . kernel_rfl
       conv=>whnf
       have g1:=zit l ok
       have g2:=zit (two l ok).2.1 (two l ok).2.2
       refine ⟨⟨((two (two l ok).2.1 (two l ok).2.2).2.1,(two (two l ok).2.1 (two l ok).2.2).2.2,acc++[⟨(two l ok).1,(two (two l ok).2.1 (two l ok).2.2).1⟩]),hinv.next hl0⟩,zbm [(2,some 2),(46,some 46),(7,some 7),(900,some 136)] rfl rfl rfl rfl ⟨⟨rfl,rfl⟩,⟨rfl,rfl⟩,⟨rfl,rfl⟩,⟨rfl,rfl⟩,trivial⟩ ⟨⟨rfl,.inl ⟨2,rfl,rfl⟩⟩,⟨rfl,.inl ⟨46,rfl,rfl⟩⟩,⟨rfl,.inl ⟨7,rfl,rfl⟩⟩,⟨rfl,.inl ⟨136,rfl,?_⟩⟩,trivial⟩,by dsimp only;omega⟩
       show HSlot.live (.row _ 2 (acc.map Span.row++[Span.row ⟨(two l ok).1,(two (two l ok).2.1 (two l ok).2.2).1⟩]))=HSlot.live (.row _ 2 (List.map Span.row (acc++[⟨(two l ok).1,(two (two l ok).2.1 (two l ok).2.2).1⟩])))
       rw [List.map_append]
       rfl
     . have hl0:l=[]:=by
        have:=of_decide_eq_false c;rw [List.length_map] at this;exact List.eq_nil_of_length_eq_zero (by omega)
       subst hl0
       cases ok with
       | false =>
        have hbad:=hinv.bad rfl
        conv=>whnf
        rw [if_pos hbad]
        rfl
       | true =>
        have hbody:=hinv.done
        conv=>whnf
        refine zar ?_;conv=>whnf
        refine ⟨_,zex ⟨2,T.1,0,0,0,false,false,[],acc,R.1,[]⟩ (by have:=hinv.len;simp;omega) (by simp),rfl,?_⟩
        rw [hbody,if_neg (by simp)]
        generalize hw:wrong _=w
        exact yy58
   . have k2:¬ kind=2:=by simpa using k2
     have hi:=I3.start k1 k2 hlen
     rw [<- hT] at hi
     clear hT
     conv=>whnf
     refine ⟨{ x:List UInt8 × Bool × List Skip // I3 kind s T.1 x.1 x.2.1 x.2.2 },fun | ⟨(l,ok,acc),_⟩=>hs 152 [(2,.ptr 2 0),(5,i64 (2+(b[1]?.getD 0).toNat)),(6,.ptr 46 0),(7,.ptr 7 0)] [(2,.live (.cells 61 yfu)),(46,rd l ok),(7,.live (.cells 61 [i64 kind,i64 T.1,i64 0,i64 0,i64 0,hbool false,hbool false,hnil,hnil,i64 0,.own 900])),(900,.live (.row 180 3 (acc.map Skip.row)))],fun x=>x.1.1.length,⟨(T.2.1,T.2.2,[]),hi⟩,?_,?_⟩
     . exact zbm [(2,some 2),(46,some 46),(7,some 7),(900,none)] rfl rfl rfl rfl ⟨⟨rfl,rfl⟩,⟨rfl,rfl⟩,⟨rfl,rfl⟩,⟨rfl,rfl⟩,trivial⟩ ⟨⟨rfl,.inl ⟨2,rfl,rfl⟩⟩,⟨rfl,.inl ⟨46,rfl,rfl⟩⟩,⟨rfl,.inl ⟨7,rfl,rfl⟩⟩,⟨rfl,.inr ⟨rfl,rfl⟩⟩,trivial⟩
     rintro ⟨⟨l,ok,acc⟩,hinv⟩
     dsimp only at hinv
     conv=>whnf
     refine zaf (fun c=>?_) (fun c=>?_)
     . have hl0:0 < l.length:=by
        have:=of_decide_eq_true c;rw [List.length_map] at this;omega
       conv=>whnf
       refine zae [] [(1000,46)] [] ?_;conv=>whnf
       refine ⟨_,_,_,_,zjm l ok,⟨rfl,rfl,rfl,⟨⟨rfl,_,rfl,.inl ⟨rfl,rfl⟩⟩,trivial⟩,trivial,rfl,rfl,rfl⟩,?_⟩
       obtain ⟨A,hA⟩:∃ A,A=one l ok:=⟨_,rfl⟩
       rw [<- hA]
       conv=>whnf
       refine zae [] [(1000,46)] [] ?_;conv=>whnf
       refine ⟨_,_,_,_,zjm A.2.1 A.2.2,⟨rfl,rfl,rfl,⟨⟨rfl,_,rfl,.inl ⟨rfl,rfl⟩⟩,trivial⟩,trivial,rfl,rfl,rfl⟩,?_⟩
       obtain ⟨B,hB⟩:∃ B,B=one A.2.1 A.2.2:=⟨_,rfl⟩
       rw [<- hB]
       conv=>whnf
       refine zae [] [(1000,46)] [] ?_;conv=>whnf
       refine ⟨_,_,_,_,zhu B.2.1 B.2.2,⟨rfl,rfl,rfl,⟨⟨rfl,_,rfl,.inl ⟨rfl,rfl⟩⟩,trivial⟩,trivial,rfl,rfl,rfl⟩,?_⟩
       obtain ⟨D,hD⟩:∃ D,D=two B.2.1 B.2.2:=⟨_,rfl⟩
       rw [<- hD]
       conv=>whnf
       refine hcut.go ?_;conv=>whnf
       refine zaf (fun c5=>?_) (fun c5=>?_)
       . have c5:=of_decide_eq_true c5
         have hn:=hinv.next k1 k2 hl0
         rw [<- hA,<- hB,<- hD] at hn
         have hn:=hn.1 c5
         have hdl:D.2.1.length < l.length:=by rw [hD,hB,hA];exact I3.less hl0
         conv=>whnf
         refine zaa (c:=((acc.map Skip.row).length+1) * 24 <= 140737488355328) (by have:=hinv.len;simp;omega) ?_;conv=>whnf
         refine ⟨⟨(D.2.1,false,acc++[⟨A.1,D.1,B.1 == 1⟩]),hn⟩,zbm [(2,some 2),(46,some 46),(7,some 7),(900,some 82)] rfl rfl rfl rfl ⟨⟨rfl,rfl⟩,⟨rfl,rfl⟩,⟨rfl,rfl⟩,⟨rfl,rfl⟩,trivial⟩ ⟨⟨rfl,.inl ⟨2,rfl,rfl⟩⟩,⟨rfl,.inl ⟨46,rfl,rfl⟩⟩,⟨rfl,.inl ⟨7,rfl,rfl⟩⟩,⟨rfl,.inl ⟨82,rfl,?_⟩⟩,trivial⟩,hdl⟩
         exact yy114
       . have c5:=of_decide_eq_false c5
         have hn:=hinv.next k1 k2 hl0
         rw [<- hA,<- hB,<- hD] at hn
         have hn:=hn.2 c5
         have hdl:D.2.1.length < l.length:=by rw [hD,hB,hA];exact I3.less hl0
         conv=>whnf
         refine zaa (c:=((acc.map Skip.row).length+1) * 24 <= 140737488355328) (by have:=hinv.len;simp;omega) ?_;conv=>whnf
         refine ⟨⟨(D.2.1,D.2.2,acc++[⟨A.1,D.1,B.1 == 1⟩]),hn⟩,zbm [(2,some 2),(46,some 46),(7,some 7),(900,some 82)] rfl rfl rfl rfl ⟨⟨rfl,rfl⟩,⟨rfl,rfl⟩,⟨rfl,rfl⟩,⟨rfl,rfl⟩,trivial⟩ ⟨⟨rfl,.inl ⟨2,rfl,rfl⟩⟩,⟨rfl,.inl ⟨46,rfl,rfl⟩⟩,⟨rfl,.inl ⟨7,rfl,rfl⟩⟩,⟨rfl,.inl ⟨82,rfl,?_⟩⟩,trivial⟩,hdl⟩
         exact yy114
     . have hl0:l=[]:=by
        have:=of_decide_eq_false c;rw [List.length_map] at this;exact List.eq_nil_of_length_eq_zero (by omega)
       subst hl0
       cases ok with
       | false =>
        have hbad:=hinv.bad rfl
        conv=>whnf
        rw [if_pos hbad]
        rfl
       | true =>
        have hbody:=hinv.done k1 k2
        conv=>whnf
        refine zar ?_;conv=>whnf
        refine ⟨_,zex ⟨kind,T.1,0,0,0,false,false,[],[],0,acc⟩ (by simp) (by have:=hinv.len;simp;omega),rfl,?_⟩
        rw [hbody,if_neg (by simp)]
        generalize hw:wrong _=w
        exact yy58
end Chk
namespace Chk
theorem zyy (b:List UInt8):(parse b).1.spans.length <= b.length /\ (parse b).1.skips.length <= b.length:=by
 have h:=zsw (b[0]?.getD 0).toNat ((b.drop 2).take (b[1]?.getD 0).toNat)
 have h3:((b.drop 2).take (b[1]?.getD 0).toNat).length <= b.length:=by simp;omega
 unfold parse
 (repeat' split) <;> constructor <;> first | (simp [no];done) | (dsimp only;omega)
end Chk
namespace Chk
theorem znr:∀ {l:List UInt8},l.length % 4=0 -> zbq (zcx l)=l
 | a :: b :: c :: d :: r,h=>by
  have:=znr (l:=r) (by simp at h;omega)
  rw [zcx]
  show enc16 (dec16 a b)++enc16 (dec16 c d)++zbq (zcx r)=_
  rw [zim,zim,this];rfl
 | [],_=>rfl
 | [_],h=>by simp at h
 | [_,_],h=>by simp at h
 | [_,_,_],h=>by simp at h
theorem zns:∀ {l:List UInt8},l.length % 4=0 -> (zbr l).2=true -> skipBytes (zbr l).1=l
 | a :: b :: c :: d :: r,h,h2=>by
  rw [zbr] at h2 ⊢
  split at h2
  . cases h2
  . rename_i hb
    have:=zns (l:=r) (by simp at h;omega) h2
    rw [if_neg hb]
    show [by8 (a.toNat:Int),by8 (if (b.toNat == 1)=true then 1 else 0)]++enc16 (dec16 c d)++skipBytes (zbr r).1=_
    rw [zim,this,zsp]
    have hb2:by8 (if (b.toNat == 1)=true then 1 else 0)=b:=by
     apply UInt8.toNat_inj.1
     rcases Nat.lt_or_ge b.toNat 1 with h1 | h1
     . have:b.toNat=0:=by omega
       rw [this];rfl
     . have:b.toNat=1:=by omega
       rw [this];rfl
    rw [hb2];rfl
 | [],_,_=>rfl
 | [_],h,_=>by simp at h
 | [_,_],h,_=>by simp at h
 | [_,_,_],h,_=>by simp at h
theorem yty {kind:Int} {s:List UInt8} (h:(zcb kind s).2=true):body (zcb kind s).1=s /\ (zcb kind s).1.kind=kind:=by
 unfold zcb at h ⊢
 split at h
 . cases h
 rename_i h2
 rw [if_neg h2]
 by_cases k1:kind=1
 . rw [if_pos k1] at h ⊢
   split at h
   . cases h
   rename_i h3
   rw [if_neg h3]
   refine ⟨?_,rfl⟩
   rcases ymf s with rfl | ⟨x0,rfl⟩ | ⟨x0,x1,rfl⟩ | ⟨x0,x1,x2,rfl⟩ | ⟨x0,x1,x2,x3,rfl⟩ | ⟨x0,x1,x2,x3,x4,rfl⟩ | ⟨x0,x1,x2,x3,x4,x5,rfl⟩ | ⟨x0,x1,x2,x3,x4,x5,x6,r,rfl⟩
   case inr.inr.inr.inr.inr.inr.inr =>
    have hx:x3.toNat <= 3:=by simp at h3;omega
    rw [body,if_pos k1]
    show enc16 (dec16 x0 x1)++[by8 (x2.toNat:Int),by8 ((if (x3.toNat % 2 != 0)=true then 1 else 0)+(if (x3.toNat / 2 * 2 != 0)=true then 2 else 0))]++enc16 (dec16 x4 x5)++[by8 (x6.toNat:Int)]++r=_
    have hfl:by8 ((if (x3.toNat % 2 != 0)=true then 1 else 0)+(if (x3.toNat / 2 * 2 != 0)=true then 2 else 0))=x3:=by
     apply UInt8.toNat_inj.1
     generalize x3.toNat=n at hx
     match n,hx with
     | 0,_=>decide
     | 1,_=>decide
     | 2,_=>decide
     | 3,_=>decide
    rw [zim,zim,zsp,zsp,hfl];rfl
   all_goals (exfalso;simp at h3)
 . rw [if_neg k1] at h ⊢
   match s,h2 with
   | a :: b :: r,_ =>
    by_cases k2:kind=2
    . rw [if_pos k2] at h ⊢
      split at h
      . cases h
      rename_i h3
      rw [if_neg h3]
      refine ⟨?_,rfl⟩
      match r,h3 with
      | c :: d :: r,h3 =>
       rw [body,if_neg k1,if_pos k2]
       show enc16 (dec16 a b)++enc16 (dec16 c d)++zbq (zcx r)=_
       rw [zim,zim,znr (by simp at h3;omega)];rfl
      | [],h3=>simp at h3
      | [_],h3=>simp at h3
    . rw [if_neg k2] at h ⊢
      split at h
      . cases h
      rename_i h3
      rw [if_neg h3]
      refine ⟨?_,rfl⟩
      rw [body,if_neg k1,if_neg k2]
      show enc16 (dec16 a b)++skipBytes (zbr r).1=_
      rw [zim,zns (l:=r) (by simp at h3;omega) h];rfl
   | [],h2=>simp at h2
   | [_],h2=>simp at h2
theorem zsx {b:List UInt8} (h:(parse b).2.2=0):wrong (parse b).1=0 /\ 0 <= (parse b).2.1 /\ (parse b).2.1 <= b.length /\ bytes (parse b).1=b.take (parse b).2.1.toNat:=by
 by_cases h1:b.length < 2 \/ b.length < 2+(b[1]?.getD 0).toNat
 . rw [parse,if_pos h1] at h;cases h
 by_cases h2:(b[0]?.getD 0).toNat < 1 \/ (b[0]?.getD 0).toNat > 3
 . rw [parse,if_neg h1,if_pos h2] at h;cases h
 generalize hs:(b.drop 2).take (b[1]?.getD 0).toNat=s
 cases h3:(zcb (b[0]?.getD 0).toNat s).2 with
 | false=>rw [parse,if_neg h1,if_neg h2,hs,if_pos h3] at h;cases h
 | true =>
  by_cases h4:wrong (zcb (b[0]?.getD 0).toNat s).1=0
  . have hp:parse b=((zcb (b[0]?.getD 0).toNat s).1,2+((b[1]?.getD 0).toNat:Int),(0:Int)):=by
     rw [parse,if_neg h1,if_neg h2,hs,if_neg (by rw [h3];simp),if_neg (fun h=>h h4)]
    obtain ⟨g1,g2⟩:=yty h3
    have hlen:s.length=(b[1]?.getD 0).toNat:=by rw [<- hs];simp;omega
    rw [hp]
    refine ⟨h4,by dsimp only;omega,by dsimp only;omega,?_⟩
    dsimp only
    rw [bytes,if_pos h4,g1,g2,hlen,zsp,zsp]
    have e2:∀ m:Nat,(2+(m:Int)).toNat=m+1+1:=by intro m;omega
    rw [e2]
    match b,h1,hs with
    | x :: y :: r,h1,hs =>
     rw [<- hs];rfl
    | [],h1,_=>simp at h1
    | [_],h1,_=>simp at h1
  . rw [parse,if_neg h1,if_neg h2,hs,if_neg (by rw [h3];simp),if_pos h4] at h
    exact absurd h h4
end Chk
namespace Pck
open Chk
abbrev chunks (l:List Chunk):HV:=.p (.sl 11 (l.map Chunk.row))
def Sized (l:List Chunk):Prop:=l.length < 2 ^ 38 /\ ∀ c ∈ l,c.spans.length < 2 ^ 38 /\ c.skips.length < 2 ^ 38
def zbx:List Chunk -> Int
 | []=>0
 | c :: r=>if wrong c ≠ 0 then wrong c else zbx r
def zbk (l:List Chunk):List UInt8:=l.flatMap Chk.bytes
def pbytes (l:List Chunk) (most:Int):List UInt8 × Int :=
 if l.length=0 then ([],5) else if zbx l ≠ 0 then ([],zbx l) else if ((zbk l).length:Int) > most then ([],4) else (zbk l,0)
theorem zlj (c:Chunk):(Chk.bytes c).length <= 36:=by
 unfold Chk.bytes
 split
 . rename_i h;have:=zvl h;simp;omega
 . simp
theorem zek:∀ l:List Chunk,(zbk l).length <= 36 * l.length
 | []=>by simp [zbk]
 | c :: r=>by
  have h1:=zlj c
  have h2:=zek r
  simp only [zbk,List.flatMap_cons,List.length_append,List.length_cons] at h2 ⊢
  omega
theorem zdk {l:List Chunk} {k:Nat} (h:k < l.length):zbk (l.take (k+1))=zbk (l.take k)++Chk.bytes l[k]:=by
 rw [<- List.take_append_getElem h,zbk,List.flatMap_append];simp [zbk]
theorem zeh (l:List Chunk) (most:Int) (hl:Sized l):FunOK Tryz.prog 141 [chunks l,i64 most] zad (.tup [byts (pbytes l most).1,i64 (pbytes l most).2]) zad:=by
 obtain ⟨hl1,hl2⟩:=hl
 refine zai mixed Tryz.func141 (by decide) ?_
 conv=>whnf
 refine zaf (fun c1=>?_) (fun c1=>?_)
 . have c1:l.length=0:=by simpa using c1
   rw [pbytes,if_pos c1]
   conv=>whnf
   rfl
 have c1:¬ l.length=0:=by simpa using c1
 rw [pbytes,if_neg c1]
 conv=>whnf
 refine ⟨{ k:Nat // k <= l.length /\ zbx l=zbx (l.drop k) },fun | ⟨k,_⟩=>hs 37 [(1,i64 most),(6,.own 900),(14,chunks l),(15,i64 l.length),(16,i64 k)] [(900,row8 (zbk (l.take k)))],fun x=>l.length - x.1,⟨0,by omega,rfl⟩,?_,?_⟩
 . exact zbm [(900,none)] rfl rfl rfl rfl ⟨⟨rfl,rfl⟩,⟨rfl,rfl⟩,⟨rfl,rfl⟩,⟨rfl,by simp;rfl⟩,⟨rfl,rfl⟩,trivial⟩ ⟨⟨rfl,.inr ⟨rfl,rfl⟩⟩,trivial⟩
 rintro ⟨k,hk,hi⟩
 conv=>whnf
 refine zaf (fun c2=>?_) (fun c2=>?_)
 . have hlt:k < l.length:=by simpa using c2
   have hab:=zek (l.take k)
   have hab2:(l.take k).length <= k:=by simp;omega
   obtain ⟨s1,s2⟩:=hl2 l[k] (List.getElem_mem hlt)
   have hsucc:=zdk hlt
   have hbl:=zlj l[k]
   rw [List.drop_eq_getElem_cons hlt] at hi
   simp only [zbx] at hi
   conv=>whnf
   refine zbe (f:=Chunk.row) (l:=l) k rfl hlt ?_
   generalize l[k]=c at s1 s2 hi hsucc hbl ⊢
   conv=>whnf
   refine zbw ?_;conv=>whnf
   refine ⟨_,zsv c (by omega) (by omega),rfl,?_⟩;conv=>whnf
   exact yy32
 . have hge:l.length <= k:=by simpa using c2
   exact yy57
theorem zgm (l:List Chunk) (most:Int) (hl:Sized l):FunOK Tryz.prog 105 [chunks l,i64 most] zad (.tup [byts (pbytes l most).1,i64 (pbytes l most).2]) zad:=by
 obtain ⟨hl1,hl2⟩:=hl
 refine zai mixed Tryz.func105 (by decide) ?_
 conv=>whnf
 refine zaf (fun c1=>?_) (fun c1=>?_)
 . have c1:l.length=0:=by simpa using c1
   rw [pbytes,if_pos c1]
   conv=>whnf
   rfl
 have c1:¬ l.length=0:=by simpa using c1
 rw [pbytes,if_neg c1]
 conv=>whnf
 refine ⟨{ k:Nat // k <= l.length /\ zbx l=zbx (l.drop k) },fun | ⟨k,_⟩=>hs 37 [(1,i64 most),(6,.own 900),(14,chunks l),(15,i64 l.length),(16,i64 k)] [(900,row8 (zbk (l.take k)))],fun x=>l.length - x.1,⟨0,by omega,rfl⟩,?_,?_⟩
 . exact zbm [(900,none)] rfl rfl rfl rfl ⟨⟨rfl,rfl⟩,⟨rfl,rfl⟩,⟨rfl,rfl⟩,⟨rfl,by simp;rfl⟩,⟨rfl,rfl⟩,trivial⟩ ⟨⟨rfl,.inr ⟨rfl,rfl⟩⟩,trivial⟩
 rintro ⟨k,hk,hi⟩
 conv=>whnf
 refine zaf (fun c2=>?_) (fun c2=>?_)
 . have hlt:k < l.length:=by simpa using c2
   have hab:=zek (l.take k)
   have hab2:(l.take k).length <= k:=by simp;omega
   obtain ⟨s1,s2⟩:=hl2 l[k] (List.getElem_mem hlt)
   have hsucc:=zdk hlt
   have hbl:=zlj l[k]
   rw [List.drop_eq_getElem_cons hlt] at hi
   simp only [zbx] at hi
   conv=>whnf
   refine zbe (f:=Chunk.row) (l:=l) k rfl hlt ?_
   generalize l[k]=c at s1 s2 hi hsucc hbl ⊢
   conv=>whnf
   refine zbw ?_;conv=>whnf
   refine ⟨_,ycq c (by omega) (by omega),rfl,?_⟩;conv=>whnf
   exact yy32
 . have hge:l.length <= k:=by simpa using c2
   exact yy57
def zdv (most:Int) (n:Nat) (k:Nat):List Chunk -> Int
 | []=>k
 | c :: r=>if wrong c ≠ 0 \/ ((Chk.bytes c).length:Int) > most - n then k else zdv most (n+(Chk.bytes c).length) (k+1) r
theorem zjn (l:List Chunk) (most:Int) (hl:Sized l) (hm:inI most):FunOK Tryz.prog 140 [chunks l,i64 most] zad (i64 (zdv most 0 0 l)) zad:=by
 obtain ⟨hl1,hl2⟩:=hl
 refine zai mixed Tryz.func140 (by decide) ?_
 conv=>whnf
 refine ⟨{ x:Nat × Nat // x.1 <= l.length /\ x.2=(zbk (l.take x.1)).length /\ ((x.2:Int) <= most \/ x.2=0) /\ zdv most x.2 x.1 (l.drop x.1)=zdv most 0 0 l },fun | ⟨(k,n),_⟩=>hs 40 [(0,chunks l),(1,i64 most),(5,i64 n),(10,chunks l),(11,i64 l.length),(12,i64 k)] [],fun x=>l.length - x.1.1,⟨(0,0),by simp,by simp [zbk],.inr rfl,rfl⟩,?_,?_⟩
 . exact zbm [] rfl rfl rfl rfl ⟨⟨rfl,rfl⟩,⟨rfl,rfl⟩,⟨rfl,rfl⟩,⟨rfl,rfl⟩,⟨rfl,by simp;rfl⟩,⟨rfl,rfl⟩,trivial⟩ trivial
 rintro ⟨⟨k,n⟩,hk,hn,hmost,hi⟩
 dsimp only at hk hn hmost hi
 conv=>whnf
 refine zaf (fun c1=>?_) (fun c1=>?_)
 . have hlt:k < l.length:=by simpa using c1
   have hab:=zek (l.take k)
   have hab2:(l.take k).length <= k:=by simp;omega
   obtain ⟨s1,s2⟩:=hl2 l[k] (List.getElem_mem hlt)
   rw [List.drop_eq_getElem_cons hlt] at hi
   simp only [zdv] at hi
   conv=>whnf
   refine zbe (f:=Chunk.row) (l:=l) k rfl hlt ?_;conv=>whnf
   have hbl:=zlj l[k]
   have hsucc:=zdk hlt
   generalize l[k]=c at s1 s2 hi hbl hsucc ⊢
   refine zbw ?_;conv=>whnf
   refine ⟨_,zsv c (by omega) (by omega),rfl,?_⟩;conv=>whnf
   refine zaf (fun c2=>?_) (fun c2=>?_)
   . have c2:wrong c ≠ 0:=by simpa using c2
     rw [if_pos (.inl c2)] at hi
     conv=>whnf
     rw [<- hi]
   have c2:wrong c=0:=by simpa using c2
   obtain ⟨hm1,hm2⟩:=hm
   conv=>whnf
   refine zam (z:=most - n) (W_fit (by omega) (by omega)) ?_;conv=>whnf
   refine zaf (fun c3=>?_) (fun c3=>?_)
   . have c3:((Chk.bytes c).length:Int) > most - n:=by simpa using c3
     rw [if_pos (.inr c3)] at hi
     conv=>whnf
     rw [<- hi]
   have c3:¬ ((Chk.bytes c).length:Int) > most - n:=by simpa using c3
   rw [if_neg (by rintro (h | h);exact h c2;exact c3 h)] at hi
   conv=>whnf
   refine zam (z:=(n:Int)+((Chk.bytes c).map bRow).length) (W_fit (by simp;omega) (by simp;omega)) ?_;conv=>whnf
   refine sFm ?_
   exact ⟨⟨(k+1,n+(Chk.bytes c).length),hlt,by dsimp only;rw [hsucc];simp;omega,by dsimp only;left;push_cast;omega,hi⟩,zbm [] rfl rfl rfl rfl ⟨⟨rfl,rfl⟩,⟨rfl,rfl⟩,⟨rfl,by simp;rfl⟩,⟨rfl,rfl⟩,⟨rfl,rfl⟩,⟨rfl,by simp;rfl⟩,trivial⟩ trivial,by dsimp only;omega⟩
 . have hge:l.length <= k:=by simpa using c1
   rw [List.drop_eq_nil_of_le hge] at hi
   conv=>whnf
   have hkl:k=l.length:=by omega
   simp only [zdv] at hi
   rw [<- hi,hkl]
   simp
end Pck
namespace Pck
open Chk
theorem ziu {l:List Chunk} {k:Nat} (h:k < l.length) (h0:zbx (l.take k)=0):zbx (l.take (k+1))=wrong l[k]:=by
 rw [<- List.take_append_getElem h]
 generalize l.take k=a at h0 ⊢
 generalize l[k]=c
 induction a with
 | nil=>simp only [List.nil_append,zbx];split <;> omega
 | cons x r ih =>
  simp only [zbx] at h0
  split at h0
  . contradiction
  . rename_i hx
    simp only [List.cons_append,zbx]
    rw [if_neg hx]
    exact ih h0
structure Fits (l:List Chunk) (most:Int) (k:Nat):Prop where
 le:k <= l.length
 fine:zbx (l.take k)=0
 much:((zbk (l.take k)).length:Int) <= most \/ k=0
theorem Fits.zero (l:List Chunk) (most:Int):Fits l most 0:=⟨by omega,by simp [zbx],.inr rfl⟩
theorem yfv {l:List Chunk} {most:Int} {k:Nat} (h:k < l.length) (hf:Fits l most k) :
 ((pbytes (l.take (k+1)) most).2 ≠ 0 ↔ (wrong l[k] ≠ 0 \/ ((Chk.bytes l[k]).length:Int) > most - (zbk (l.take k)).length)):=by
 have h1:=ziu h hf.fine
 have h2:(zbk (l.take (k+1))).length=(zbk (l.take k)).length+(Chk.bytes l[k]).length:=by rw [zdk h];simp
 have h3:¬ (l.take (k+1)).length=0:=by rw [List.length_take];omega
 rw [pbytes,if_neg h3,h1]
 by_cases hw:wrong l[k] ≠ 0
 . rw [if_pos hw]
   exact ⟨fun h=>.inl hw,fun _=>hw⟩
 . rw [if_neg hw]
   split
   . exact ⟨fun _=>.inr (by omega),fun _=>by decide⟩
   . exact ⟨fun h=>absurd rfl h,fun h=>by rcases h with h | h;exact absurd h hw;omega⟩
theorem Fits.next {l:List Chunk} {most:Int} {k:Nat} (h:k < l.length) (hf:Fits l most k) (hn:¬ (wrong l[k] ≠ 0 \/ ((Chk.bytes l[k]).length:Int) > most - (zbk (l.take k)).length)):Fits l most (k+1):=by
 have h1:=ziu h hf.fine
 have h2:(zbk (l.take (k+1))).length=(zbk (l.take k)).length+(Chk.bytes l[k]).length:=by rw [zdk h];simp
 refine ⟨h,?_,.inl ?_⟩
 . rw [h1];rcases Int.decEq (wrong l[k]) 0 with h | h;exact absurd (.inl h) hn;exact h
 . have:¬ ((Chk.bytes l[k]).length:Int) > most - (zbk (l.take k)).length:=fun h=>hn (.inr h)
   omega
theorem yfw {l:List Chunk} {most:Int}:∀ {j k:Nat},l.length - k=j -> Fits l most k -> ∃ r,zdv most (zbk (l.take k)).length k (l.drop k)=(r:Nat) /\ Fits l most r /\ (r < l.length -> (pbytes (l.take (r+1)) most).2 ≠ 0)
 | 0,k,hj,hf=>by
  have hk:k=l.length:=by have:=hf.le;omega
  refine ⟨k,?_,hf,fun h=>absurd h (by omega)⟩
  rw [List.drop_eq_nil_of_le (by omega)];rfl
 | j+1,k,hj,hf=>by
  have hlt:k < l.length:=by omega
  have hs:=yfv hlt hf
  rw [List.drop_eq_getElem_cons hlt]
  simp only [zdv]
  by_cases hc:wrong l[k] ≠ 0 \/ ((Chk.bytes l[k]).length:Int) > most - (zbk (l.take k)).length
  . rw [if_pos hc]
    exact ⟨k,rfl,hf,fun _=>hs.2 hc⟩
  . rw [if_neg hc]
    obtain ⟨r,h1,h2,h3⟩:=yfw (j:=j) (k:=k+1) (by omega) (hf.next hlt hc)
    rw [zdk hlt,List.length_append] at h1
    exact ⟨r,h1,h2,h3⟩
theorem ycs (l:List Chunk) (most:Int):∃ r,zdv most 0 0 l=(r:Nat) /\ Fits l most r /\ (r < l.length -> (pbytes (l.take (r+1)) most).2 ≠ 0):=by
 have:=yfw (l:=l) (most:=most) rfl (Fits.zero l most)
 simpa [zbk] using this
theorem Sized.take {l:List Chunk} (h:Sized l) (k:Nat):Sized (l.take k):=⟨by have:=h.1;simp;omega,fun c hc=>h.2 c (List.mem_of_mem_take hc)⟩
theorem zyz (l:List Chunk) (most:Int) (hl:Sized l):FunOK Tryz.prog 104 [chunks l,i64 most] zad (i64 (zdv most 0 0 l)) zad:=by
 have hl1:=hl.1
 refine zai mixed Tryz.func104 (by decide) ?_
 conv=>whnf
 refine hcut.go ?_;conv=>whnf
 refine ⟨{ k:Nat // Fits l most k /\ zdv most (zbk (l.take k)).length k (l.drop k)=zdv most 0 0 l },fun | ⟨k,_⟩=>hs 26 [(0,chunks l),(1,i64 most),(5,i64 k)] [],fun x=>l.length - x.1,⟨0,Fits.zero l most,by simp [zbk]⟩,?_,?_⟩
 . exact zbm [] rfl rfl rfl rfl ⟨⟨rfl,rfl⟩,⟨rfl,rfl⟩,⟨rfl,rfl⟩,trivial⟩ trivial
 rintro ⟨k,hf,hi⟩
 conv=>whnf
 refine zaf (fun c1=>?_) (fun c1=>?_)
 . have hlt:k < l.length:=by simpa using c1
   have hstep:=yfv hlt hf
   have hnext:=hf.next hlt
   have hsucc:=zdk hlt
   rw [List.drop_eq_getElem_cons hlt] at hi
   simp only [zdv] at hi
   conv=>whnf
   refine sFm ?_
   refine sOm ?_
   refine zev (o':=0) (n':=k+1) rfl (by omega) ?_
   refine zee (l:=l) (by omega) ?_
   rw [List.drop_zero]
   conv=>whnf
   refine zbw ?_;conv=>whnf
   refine ⟨_,zgm (l.take (k+1)) most (hl.take _),rfl,?_⟩;conv=>whnf
   refine zaf (fun c2=>?_) (fun c2=>?_)
   . have c2:(pbytes (l.take (k+1)) most).2 ≠ 0:=by simpa using c2
     rw [if_pos (hstep.1 c2)] at hi
     conv=>whnf
     rw [<- hi]
   . have c2:(pbytes (l.take (k+1)) most).2=0:=by simpa using c2
     have hn:¬ (wrong l[k] ≠ 0 \/ ((Chk.bytes l[k]).length:Int) > most - (zbk (l.take k)).length):=fun h=>hstep.2 h c2
     rw [if_neg hn] at hi
     conv=>whnf
     refine sFm ?_
     exact ⟨⟨k+1,hnext hn,by rw [hsucc,List.length_append];exact hi⟩,zbm [] rfl rfl rfl rfl ⟨⟨rfl,rfl⟩,⟨rfl,rfl⟩,⟨rfl,by simp;rfl⟩,trivial⟩ trivial,by dsimp only;omega⟩
 . have hge:l.length <= k:=by simpa using c1
   rw [List.drop_eq_nil_of_le hge] at hi
   conv=>whnf
   rw [<- hi]
   rfl
def zdr:Nat -> List UInt8 -> List Chunk × Int
 | 0,_=>([],0)
 | f+1,b=>if b.length=0 then ([],0) else if (parse b).2.2 ≠ 0 then ([],(parse b).2.2) else
  if (zdr f (b.drop (parse b).2.1.toNat)).2 ≠ 0 then ([],(zdr f (b.drop (parse b).2.1.toNat)).2) else ((parse b).1 :: (zdr f (b.drop (parse b).2.1.toNat)).1,0)
def pparse (b:List UInt8):List Chunk × Int:=if b.length=0 then ([],5) else zdr b.length b
theorem ymh {b:List UInt8} (h:(parse b).2.2=0):2 <= (parse b).2.1:=by
 unfold parse at h ⊢
 (repeat' split at h) <;> first | contradiction | skip
 all_goals (repeat' split) <;> first | contradiction | (dsimp only;omega)
theorem zsy:∀ (f:Nat) (b:List UInt8),(zdr f b).2 ≠ 0 -> (zdr f b).1=[]
 | 0,b,h=>rfl
 | f+1,b,h=>by
  rw [zdr] at h ⊢
  split
  . rfl
  split
  . rfl
  split
  . rfl
  . rename_i h1 h2 h3
    rw [if_neg h1,if_neg h2,if_neg h3] at h
    exact absurd rfl h
theorem yct (b:List UInt8) (hb:b.length < 2 ^ 37):FunOK Tryz.prog 151 [byts b] zad (.tup [chunks (pparse b).1,i64 (pparse b).2]) zad:=by
 refine zai mixed Tryz.func151 (by decide) ?_
 conv=>whnf
 refine zaf (fun c1=>?_) (fun c1=>?_)
 . have c1:b.length=0:=by simpa using c1
   rw [pparse,if_pos c1]
   conv=>whnf
   rfl
 have c1:¬ b.length=0:=by simpa using c1
 rw [pparse,if_neg c1]
 generalize hR:zdr b.length b=R
 conv=>whnf
 refine ⟨{ x:Nat × List UInt8 × List Chunk // x.2.1.length <= x.1 /\ x.2.2.length+x.2.1.length <= b.length /\ R.2=(zdr x.1 x.2.1).2 /\ ((zdr x.1 x.2.1).2=0 -> R.1=x.2.2++(zdr x.1 x.2.1).1) /\ (R.2 ≠ 0 -> R.1=[]) },fun | ⟨(f,b',acc),_⟩=>hs 31 [(0,byts b'),(4,.own 900)] [(900,.live (.row 61 11 (acc.map Chunk.row)))],fun x=>x.1.2.1.length,⟨(b.length,b,[]),by dsimp only;omega,by simp,by dsimp only;rw [hR],fun _=>by dsimp only;rw [hR];rfl,by rw [<- hR];exact zsy _ _⟩,?_,?_⟩
 . exact zbm [(900,none)] rfl rfl rfl rfl ⟨⟨rfl,rfl⟩,⟨rfl,rfl⟩,trivial⟩ ⟨⟨rfl,.inr ⟨rfl,rfl⟩⟩,trivial⟩
 rintro ⟨⟨f,b',acc⟩,hf,hlen,h1,h2,h3⟩
 dsimp only at hf hlen h1 h2 h3
 conv=>whnf
 refine zaf (fun c2=>?_) (fun c2=>?_)
 . have c2:0 < b'.length:=by have:=of_decide_eq_true c2;rw [List.length_map] at this;omega
   obtain ⟨g,rfl⟩:∃ g,f=g+1:=⟨f - 1,by omega⟩
   rw [zdr,if_neg (by omega)] at h1 h2
   have hn:=ymh (b:=b')
   have hg:=zsx (b:=b')
   obtain ⟨q1,q2⟩:=zyy b'
   conv=>whnf
   refine zbw ?_;conv=>whnf
   refine ⟨_,yip b' (by omega),rfl,?_⟩
   exact yy15
 . have c2:b'.length=0:=by have:=of_decide_eq_false c2;rw [List.length_map] at this;omega
   exact yy108
theorem zza (b:List UInt8) (hb:b.length < 2 ^ 37):FunOK Tryz.prog 145 [byts b] zad (.tup [chunks (pparse b).1,i64 (pparse b).2]) zad:=by
 refine zai mixed Tryz.func145 (by decide) ?_
 conv=>whnf
 refine zaf (fun c1=>?_) (fun c1=>?_)
 . have c1:b.length=0:=by simpa using c1
   rw [pparse,if_pos c1]
   conv=>whnf
   rfl
 have c1:¬ b.length=0:=by simpa using c1
 rw [pparse,if_neg c1]
 generalize hR:zdr b.length b=R
 conv=>whnf
 refine ⟨{ x:Nat × List UInt8 × List Chunk // x.2.1.length <= x.1 /\ x.2.2.length+x.2.1.length <= b.length /\ R.2=(zdr x.1 x.2.1).2 /\ ((zdr x.1 x.2.1).2=0 -> R.1=x.2.2++(zdr x.1 x.2.1).1) /\ (R.2 ≠ 0 -> R.1=[]) },fun | ⟨(f,b',acc),_⟩=>hs 31 [(0,byts b'),(4,.own 900)] [(900,.live (.row 61 11 (acc.map Chunk.row)))],fun x=>x.1.2.1.length,⟨(b.length,b,[]),by dsimp only;omega,by simp,by dsimp only;rw [hR],fun _=>by dsimp only;rw [hR];rfl,by rw [<- hR];exact zsy _ _⟩,?_,?_⟩
 . exact zbm [(900,none)] rfl rfl rfl rfl ⟨⟨rfl,rfl⟩,⟨rfl,rfl⟩,trivial⟩ ⟨⟨rfl,.inr ⟨rfl,rfl⟩⟩,trivial⟩
 rintro ⟨⟨f,b',acc⟩,hf,hlen,h1,h2,h3⟩
 dsimp only at hf hlen h1 h2 h3
 conv=>whnf
 refine zaf (fun c2=>?_) (fun c2=>?_)
 . have c2:0 < b'.length:=by have:=of_decide_eq_true c2;rw [List.length_map] at this;omega
   obtain ⟨g,rfl⟩:∃ g,f=g+1:=⟨f - 1,by omega⟩
   rw [zdr,if_neg (by omega)] at h1 h2
   have hn:=ymh (b:=b')
   have hg:=zsx (b:=b')
   obtain ⟨q1,q2⟩:=zyy b'
   conv=>whnf
   refine zbw ?_;conv=>whnf
   refine ⟨_,ycr b' (by omega),rfl,?_⟩
   exact yy15
 . have c2:b'.length=0:=by have:=of_decide_eq_false c2;rw [List.length_map] at this;omega
   exact yy108
end Pck
namespace Snd
open Ser
def newS (c:Config):Sender:=⟨c,0,[],Sch.new c.streams,[],List.replicate c.paths.toNat (Paths.new c.part),c.first - 1,c.first,400,List.replicate (2 * c.streams).toNat 0,[],false,c.first - 1⟩
def noS:Sender:=⟨⟨0,0,0,0,0,0,0⟩,0,[],⟨0,0,[]⟩,[],[],0,0,0,[],[],false,0⟩
def zdl (s:Sender) (m:Message):Int :=
 if m.stream < 0 \/ m.stream >= s.config.streams \/ m.life < 0 \/ m.life > 1000 \/ m.tries < 0 \/ m.tries > 1000 then 3 else
 if m.data.length < 1 \/ m.data.length > 60 then 4 else if (s.queue.length:Int) >= s.config.waiting then 7 else 0
def sendS (s:Sender) (m:Message):Sender:={ s with queue:=s.queue++[⟨s.fates.length,-1,s.clock,0,0,m⟩],fates:=s.fates++[1] }
def flP (out:List Sent) (i:Nat) (p:Path):Path:={ p with flight:=(Sco.fl i out:Nat) }
def flights (s:Sender):Sender:={ s with paths:=s.paths.mapIdx fun i p=>flP s.out i p }
def endOf (next:Int) (m:Queued):Sent:=⟨next,m.id,0,0,0,0,0,0,0,⟨1,tag next,m.message.stream,tag m.mid,m.parts,true,m.message.ordered,[],[],0,[]⟩⟩
def end1 (id:Int) (s:Sender) (m:Queued):Sender:=if m.id=id /\ m.parts > 0 then { s with out:=s.out++[endOf s.next m],next:=W (s.next+1) } else s
def giveS (s:Sender) (id:Int):Sender :=
 let t:=s.queue.foldl (end1 id) { s with fates:=s.fates.set id.toNat 3 }
 flights { t with queue:=s.queue.filter fun m=>decide (m.id ≠ id),sched:=if s.sched.hand=id then { s.sched with hand:=-1 } else s.sched,out:=t.out.map (Sco.give id),forward:=true }
def old (clock came life:Int):Bool:=decide (life > 0) && decide (W (clock - came) >= life)
def expQ (s:Sender) (m:Queued):Sender:=if old s.clock m.came m.message.life then giveS s m.id else s
def dueX (s:Sender) (x:Sent):Bool:=decide (s.fates[x.id.toNat]?.getD 0=1) && (decide (x.state ≠ 2) && (old s.clock x.came x.life || (decide (x.state=3) && (decide (x.tries > 0) && decide (x.times > x.tries)))))
def expX (s:Sender) (x:Sent):Sender:=if dueX s x then giveS s x.id else s
def expire (s:Sender):Sender:=(s.queue.foldl expQ s).out.foldl expX (s.queue.foldl expQ s)
structure Pump where
 s:Sender
 out:List (List Chunk)
def flyX (x:Sent) (path:Int):Sent:={ x with state:=1,path:=path,missed:=0,times:=W (x.times+1) }
def setAt {α:Type} (l:List α) (k:Nat) (f:α -> α):List α:=match l[k]? with
 | none=>l
 | some x=>l.set k (f x)
def fly (p:Pump) (i path:Nat):Pump:=match p.s.out[i]? with
 | none=>p
 | some x=>⟨{ p.s with out:=p.s.out.set i (flyX x path),paths:=setAt p.s.paths path fun a=>{ a with flight:=W (a.flight+x.chunk.data.length) } },setAt p.out path (·++[x.chunk])⟩
def opened (s:Sender) (path:Nat):Bool:=match s.paths[path]? with
 | none=>false
 | some a=>decide (a.flight < a.window)
def zcd (path:Nat) (p:Pump) (i:Nat):Pump:=match p.s.out[i]? with
 | none=>p
 | some x=>if x.state=3 /\ opened p.s path=true then fly p i path else p
def choose (s:Sender):Nat:=(Paths.zcr 0 s.paths).toNat
def again (p:Pump):Pump:=(List.range p.s.out.length).foldl (zcd (choose p.s)) p
def flight (s:Sender):Int:=s.paths.foldl (fun n a=>W (n+a.flight)) 0
def midAt (s:Sender) (m:Queued):Nat:=(m.message.stream+if m.message.ordered then 0 else s.config.streams).toNat
def midOf (s:Sender) (m:Queued):Int:=if m.mid < 0 then s.mids[midAt s m]?.getD 0 else m.mid
def zcm (s:Sender) (m:Queued):List Int:=if m.mid < 0 then setAt s.mids (midAt s m) (fun n=>W (n+1)) else s.mids
def cut (s:Sender) (m:Queued) (n:Int):Chunk:=⟨1,tag s.next,m.message.stream,tag (midOf s m),m.parts,decide (m.sent+n=m.message.data.length),m.message.ordered,(m.message.data.drop m.sent.toNat).take n.toNat,[],0,[]⟩
def many (s:Sender) (m:Queued):Int:=if (m.message.data.length:Int) - m.sent < s.config.part then (m.message.data.length:Int) - m.sent else s.config.part
def next1 (p:Pump) (k:Nat) (m:Queued) (n:Int):Pump :=
 let over:=decide (m.sent+n=m.message.data.length)
 let m':Queued:={ m with mid:=midOf p.s m }
 let s:={ p.s with mids:=zcm p.s m,sched:=Sch.had p.s.sched m' n over,out:=p.s.out++[⟨p.s.next,m.id,0,0,0,0,m.came,m.message.life,m.message.tries,cut p.s m n⟩],next:=W (p.s.next+1),queue:=if over then p.s.queue.eraseIdx k else p.s.queue.set k { m' with sent:=m.sent+n,parts:=W (m.parts+1) } }
 fly ⟨s,p.out⟩ p.s.out.length (choose p.s)
def zcy (s:Sender):Int:=Sch.next s.config.turns s.sched s.queue
def next (p:Pump):Option Pump :=
 if zcy p.s < 0 \/ opened p.s (choose p.s)=false \/ (p.s.out.length:Int) >= 60 then none else match p.s.queue[(zcy p.s).toNat]? with
  | none=>none
  | some m=>if flight p.s > 0 /\ W (flight p.s+many p.s m) > p.s.room then none else some (next1 p (zcy p.s).toNat m (many p.s m))
def nexts:Nat -> Pump -> Pump
 | 0,p=>p
 | n+1,p=>match next p with
  | none=>p
  | some q=>nexts n q
def alarm (s:Sender) (a:Path):Path:=if a.alarm=0 then { a with alarm:=W (s.clock+a.wait) } else a
def forward (p:Pump):Pump:=if p.s.forward=false \/ (Sco.point p.s.out p.s.cum).1=p.s.cum then p else
 ⟨{ p.s with forward:=false,paths:=setAt p.s.paths (choose p.s) (alarm p.s) },setAt p.out (choose p.s) (·++[⟨3,tag (Sco.point p.s.out p.s.cum).1,0,0,0,false,false,[],[],0,(Sco.point p.s.out p.s.cum).2⟩])⟩
def room1 (most:Int) (l:List Chunk):Int:=if 1 > Pck.zdv most 0 0 l then 1 else Pck.zdv most 0 0 l
def pack1 (most:Int) (path:Int) (l:List Chunk):List Packet:=if (Pck.pbytes (l.take (room1 most l).toNat) most).2=0 then [⟨path,false,(Pck.pbytes (l.take (room1 most l).toNat) most).1⟩] else []
def packN (most:Int) (path:Int):Nat -> List Chunk -> List Packet
 | 0,_=>[]
 | n+1,l=>if l=[] then [] else pack1 most path l++packN most path n (l.drop (room1 most l).toNat)
def zbb (most:Int):Nat -> List (List Chunk) -> List Packet
 | _,[]=>[]
 | k,l :: r=>packN most k l.length l++zbb most (k+1) r
def wake (s:Sender) (n:Int) (a:Path):Path:=if a.flight > 0 /\ a.alarm=0 then { a with alarm:=W (s.clock+a.wait) } else if a.flight=0 /\ n=s.cum then { a with alarm:=0 } else a
def woken (s:Sender):Sender:={ s with paths:=s.paths.map (wake s (Sco.point s.out s.cum).1) }
def pumpP (s:Sender):Pump:=nexts 61 (again (forward ⟨expire s,List.replicate s.paths.length []⟩))
def pump (s:Sender):Sender × List Packet:=(woken (pumpP s).s,zbb s.config.packet 0 (pumpP s).out)
def settled (s:Sender) (id:Nat) (f:Int):Int:=if f=1 /\ (s.queue.any fun m=>decide (m.id=(id:Int)))=false /\ (s.out.any fun x=>decide (x.id=(id:Int)) && decide (x.state ≠ 2))=false then 2 else f
def settle (s:Sender):Sender:={ s with fates:=s.fates.mapIdx fun id f=>settled s id f }
def heard (s:Sender) (c:Chunk):Sender :=
 let k:=Sco.sack s.out s.cum c s.paths.length
 let moved:=decide (k.2.1 > s.cum)
 let t:=flights { s with out:=k.1,cum:=k.2.1,room:=c.room,paths:=s.paths.mapIdx fun i p=>if k.2.2.1[i]?.getD 0 > 0 then Paths.acked p (k.2.2.1[i]?.getD 0) s.config.part moved else p }
 let u:=match k.2.2.2.getLast? with
  | none=>t
  | some z=>if z > t.recover then { t with paths:=setAt t.paths (choose t) fun p=>Paths.halved p s.config.part,recover:=W (t.next - 1) } else t
 settle (if moved=true /\ (Sco.point u.out u.cum).1 > u.cum then { u with forward:=true } else u)
def hear (s:Sender) (c:Chunk):Sender:=if c.kind ≠ 2 then s else if near s.cum c.tag < s.cum \/ near s.cum c.tag > s.cum+s.out.length then s else heard s c
def late1 (part:Int) (s:Sender) (i:Nat):Sender:=match s.paths[i]? with
 | none=>s
 | some p=>if p.alarm=0 \/ s.clock < p.alarm then s else
  let t:={ s with out:=s.out.map (Sco.late i),paths:=s.paths.set i (Paths.late p part) }
  if (Sco.point t.out t.cum).1 > t.cum then { t with forward:=true } else t
def tick (s:Sender):Sender:=(List.range s.paths.length).foldl (late1 s.config.part) { s with clock:=W (s.clock+1) }
def calm (s:Sender):Bool:=decide (s.queue.length=0) && decide (s.out.length=0)
end Snd
namespace Snd
open Ser
abbrev rowQ (l:List Queued):HSlot:=.live (.row 117 10 (l.map Queued.row))
abbrev rowX (l:List Sent):HSlot:=.live (.row 134 20 (l.map Sent.row))
abbrev rowW (l:List Path):HSlot:=.live (.row 86 7 (l.map Path.row))
abbrev rowT (l:List Int):HSlot:=.live (.row 3 1 (l.map fun n=>[pi n]))
abbrev rowK (l:List Chunk):HSlot:=.live (.row 61 11 (l.map Chunk.row))
abbrev pths (l:List Path):HV:=.p (.sl 7 (l.map Path.row))
def sndC (s:Sender) (q h o p m f:HV):List HV:=[i64 s.config.streams,i64 s.config.part,i64 s.config.packet,i64 s.config.paths,i64 s.config.turns,i64 s.config.waiting,i64 s.config.first,i64 s.clock,q,i64 s.sched.last,i64 s.sched.hand,h,o,p,i64 s.cum,i64 s.next,i64 s.room,m,f,hbool s.forward,i64 s.recover]
def pmpC (s:Sender) (q h o p m f x:HV):List HV:=[i64 s.config.streams,i64 s.config.part,i64 s.config.packet,i64 s.config.paths,i64 s.config.turns,i64 s.config.waiting,i64 s.config.first,i64 s.clock,q,i64 s.sched.last,i64 s.sched.hand,h,o,p,i64 s.cum,i64 s.next,i64 s.room,m,f,hbool s.forward,i64 s.recover,x]
abbrev sndO (s:Sender) (a b c d e f:Nat):HV:=.agg (sndC s (.own a) (.own b) (.own c) (.own d) (.own e) (.own f))
abbrev sndB (s:Sender) (a b c d e f:Nat) (L:List (Nat × HSlot)):List (Nat × HSlot):=(a,rowQ s.queue) :: (b,rowT s.sched.had) :: (c,rowX s.out) :: (d,rowW s.paths) :: (e,rowT s.mids) :: (f,rowT s.fates) :: L
abbrev snG0 (s:Sender) (q h o p m f:Nat) (L:List (Nat × HSlot)):List (Nat × HSlot):=(1000,.live (.cells 32 (sndC s (.own q) (.own h) (.own o) (.own p) (.own m) (.own f)))) :: sndB s q h o p m f L
abbrev snG1 (s:Sender) (a:List Chunk) (q h o p m f x c:Nat) (L:List (Nat × HSlot)):List (Nat × HSlot):=(1000,.live (.cells 139 (pmpC s (.own q) (.own h) (.own o) (.own p) (.own m) (.own f) (.own x)))) :: sndB s q h o p m f ((x,.live (.cells 145 [.own c])) :: (c,rowK a) :: L)
abbrev snG2 (s:Sender) (a b:List Chunk) (q h o p m f x c d:Nat) (L:List (Nat × HSlot)):List (Nat × HSlot):=(1000,.live (.cells 139 (pmpC s (.own q) (.own h) (.own o) (.own p) (.own m) (.own f) (.own x)))) :: sndB s q h o p m f ((x,.live (.cells 145 [.own c,.own d])) :: (c,rowK a) :: (d,rowK b) :: L)
abbrev snG3 (s:Sender) (q h o p m f x:Nat) (L:List (Nat × HSlot)):List (Nat × HSlot):=(1000,.live (.cells 139 (pmpC s (.own q) (.own h) (.own o) (.own p) (.own m) (.own f) (.own x)))) :: sndB s q h o p m f ((x,.live (.cells 145 [hnil])) :: L)
abbrev snG4 (s:Sender) (q h o p m f x:Nat) (L:List (Nat × HSlot)):List (Nat × HSlot):=(1000,.live (.cells 139 (pmpC s (.own q) (.own h) (.own o) (.own p) (.own m) (.own f) (.own x)))) :: sndB s q h o p m f ((x,.live (.cells 145 [hnil,hnil])) :: L)
abbrev pH0 (s:Sender) :List (Nat × HSlot):=snG0 s  1001 1002 1003 1004 1005 1006  []
abbrev pD0 (s:Sender) :List (Nat × HSlot):=snG0 s  0 1 2 3 4 5 [(1001,.dead),(1002,.dead),(1003,.dead),(1004,.dead),(1005,.dead),(1006,.dead)]
abbrev pH1 (s:Sender) (a:List Chunk):List (Nat × HSlot):=snG1 s a 1001 1002 1003 1004 1005 1006 1007 1008 []
abbrev pD1 (s:Sender) (a:List Chunk):List (Nat × HSlot):=snG1 s a 0 1 2 3 4 5 1007 6 [(1001,.dead),(1002,.dead),(1003,.dead),(1004,.dead),(1005,.dead),(1006,.dead),(1008,.dead)]
abbrev pH2 (s:Sender) (a b:List Chunk):List (Nat × HSlot):=snG2 s a b 1001 1002 1003 1004 1005 1006 1007 1008 1009 []
abbrev pD2 (s:Sender) (a b:List Chunk):List (Nat × HSlot):=snG2 s a b 0 1 2 3 4 5 1007 6 7 [(1001,.dead),(1002,.dead),(1003,.dead),(1004,.dead),(1005,.dead),(1006,.dead),(1008,.dead),(1009,.dead)]
abbrev pH3 (s:Sender) :List (Nat × HSlot):=snG3 s  1001 1002 1003 1004 1005 1006 1007 []
abbrev pD3 (s:Sender) :List (Nat × HSlot):=snG3 s  0 1 2 3 4 5 1007 [(1001,.dead),(1002,.dead),(1003,.dead),(1004,.dead),(1005,.dead),(1006,.dead)]
abbrev pH4 (s:Sender) :List (Nat × HSlot):=snG4 s  1001 1002 1003 1004 1005 1006 1007 []
abbrev pD4 (s:Sender) :List (Nat × HSlot):=snG4 s  0 1 2 3 4 5 1007 [(1001,.dead),(1002,.dead),(1003,.dead),(1004,.dead),(1005,.dead),(1006,.dead)]
abbrev zeroS:List HV:=[i64 0,i64 0,i64 0,i64 0,i64 0,i64 0,i64 0,i64 0,hnil,i64 0,i64 0,hnil,hnil,hnil,i64 0,i64 0,i64 0,hnil,hnil,hbool false,i64 0]
structure Fit (s:Sender):Prop where
 queue:s.queue.length < 2 ^ 22
 had:s.sched.had.length < 2 ^ 22
 out:Sco.Sized s.out
 paths:s.paths.length < 2 ^ 22
 mids:s.mids.length < 2 ^ 22
 fates:s.fates.length < 2 ^ 30
 data:∀ m ∈ s.queue,m.message.data.length < 2 ^ 38
theorem zci (s:Sender) (hs:Fit s):FunOK Tryz.prog 33 [s.hv] zad (sndO s 0 1 2 3 4 5) (lk .free (sndB s 0 1 2 3 4 5 [])):=by
 obtain ⟨h1,h2,h3,h4,h5,h6,h7⟩:=hs
 refine zal mixed Tryz.func33 (by decide) [] (fun _=>.inl rfl) ?_
 conv=>whnf
 refine ⟨{ x:List Queued × List Queued // s.queue=x.1++x.2 },fun | ⟨(A,B),_⟩=>hs 47 [(1,.ptr 1 0),(2,.ptr 2 0),(3,.own 900),(7,Sch.qs s.queue),(8,i64 s.queue.length),(9,i64 A.length)] [(1,.live (.cells 32 (sndC s (Sch.qs s.queue) (ints s.sched.had) (Sco.sents s.out) (pths s.paths) (ints s.mids) (ints s.fates)))),(2,.live (.cells 32 zeroS)),(900,rowQ A)],fun x=>x.1.2.length,⟨([],s.queue),rfl⟩,?_,?_⟩
 . exact (hle_Q [(1,some 1),(2,some 2),(900,none)])
 rintro ⟨⟨A,B⟩,h⟩
 dsimp only at h
 conv=>whnf
 cases B with
 | cons p B =>
  have hz:=zat h
  have hp:=h7 p (zef h)
  refine sT ?_
  refine zah h rfl ?_;conv=>whnf
  (refine zao [(0,16)]  ?_;(conv=>whnf);refine dO (Cl.zcf p.message.data (by omega)) ?_)
  refine zaa (c:=((A.map Queued.row).length+1) * 96 <= 140737488355328) (by simp;omega) ?_;conv=>whnf
  refine sF ?_
  refine ⟨⟨(A++[p],B),zag h⟩,(hle_X [(1,some 1),(2,some 2),(900,some 22)] (by repeat' (first | exact z0 | refine z1 ?_ | refine ⟨?_,?_⟩ | ((exact zau (f:=Queued.row) rfl rfl)) | exact z2))),by simp⟩
 | nil =>
  have hz:=zaz h
  rw [List.append_nil] at h
  refine sN ?_
  (refine zao [(0,27)]  ?_;(conv=>whnf);refine dO (Sch.zci s.sched (by omega)) ?_)
  (refine zao [(0,30)]  ?_;(conv=>whnf);refine dO (Sco.zci s.out h3) ?_)
  refine sD ?_
  (refine zao [(0,36)]  ?_;(conv=>whnf);refine dO (Cl.ycj s.paths (by omega)) ?_)
  (refine zao [(0,39)]  ?_;(conv=>whnf);refine dO (Cl.zmp s.mids (by omega)) ?_)
  (refine zao [(0,42)]  ?_;(conv=>whnf);refine dO (Cl.zmp s.fates (by omega)) ?_)
  refine sD ?_
  refine zak [(0,some 900),(1,some 27),(2,some 30),(3,some 36),(4,some 39),(5,some 42)] rfl rfl trivial rfl rfl ⟨⟨rfl,.inl ⟨900,rfl,?_⟩⟩,⟨rfl,.inl ⟨27,rfl,rfl⟩⟩,⟨rfl,.inl ⟨30,rfl,rfl⟩⟩,⟨rfl,.inl ⟨36,rfl,rfl⟩⟩,⟨rfl,.inl ⟨39,rfl,rfl⟩⟩,⟨rfl,.inl ⟨42,rfl,rfl⟩⟩,trivial⟩
  exact zan (by rw [h])
theorem zzb (s:Sender)  (came life:Int):FunOK Tryz.prog 130 [.ptr 1000 0,i64 came,i64 life] (lk .free (pH3 s )) (hbool (old s.clock came life)) (lk .free (pH3 s )):=by
 exact yy50
theorem zzc (s:Sender)  (came life:Int):FunOK Tryz.prog 130 [.ptr 1000 0,i64 came,i64 life] (lk .free (pH4 s )) (hbool (old s.clock came life)) (lk .free (pH4 s )):=by
 exact yy50
theorem zzd (s:Sender) (a:List Chunk) (h4:s.paths.length < 2 ^ 22):FunOK Tryz.prog 136 [.ptr 1000 0] (lk .free (pH1 s a)) (i64 (flight s)) (lk .free (pH1 s a)):=by
 refine zal mixed Tryz.func136 (by decide) [1000,1001,1002,1003,1004,1005,1006,1007,1008] zba ?_
 conv=>whnf
 refine ⟨{ x:List Path × List Path // s.paths=x.1++x.2 },fun | ⟨(A,B),_⟩=>hsP [1000,1001,1002,1003,1004,1005,1006,1007,1008] 22 [(3,i64 (A.foldl (fun n a=>W (n+a.flight)) 0)),(10,.own 1004),(11,i64 s.paths.length),(12,i64 A.length)] (pH1 s a),fun x=>x.1.2.length,⟨([],s.paths),rfl⟩,?_,?_⟩
 . exact (hle_Y (pK9 []) (by repeat' (first | exact z0 | refine z1 ?_ | refine ⟨?_,?_⟩ | ((exact zaw om)) | exact z2)))
 rintro ⟨⟨A,B⟩,h⟩
 dsimp only at h
 conv=>whnf
 cases B with
 | cons p B =>
  have hz:=zat h
  refine sT ?_
  refine sO ?_
  refine zah h rfl ?_;conv=>whnf
  refine sR ?_
  refine sF ?_
  exact ⟨⟨(A++[p],B),zag h⟩,(hle_Y (pK9 []) (by repeat' (first | exact z0 | refine z1 ?_ | refine ⟨?_,?_⟩ | ((exact zaw (by rw [List.foldl_append];rfl))) | exact z2))),by simp⟩
 | nil =>
  have hz:=zaz h
  rw [List.append_nil] at h
  refine sN ?_
  (exact zby (pK9 []) (by repeat' (first | exact z0 | refine z1 ?_ | refine ⟨?_,?_⟩ | ((rw [flight,h];rfl)) | exact z2)))
theorem znt (s:Sender) (a b:List Chunk) (h4:s.paths.length < 2 ^ 22):FunOK Tryz.prog 136 [.ptr 1000 0] (lk .free (pH2 s a b)) (i64 (flight s)) (lk .free (pH2 s a b)):=by
 refine zal mixed Tryz.func136 (by decide) [1000,1001,1002,1003,1004,1005,1006,1007,1008,1009] zba ?_
 conv=>whnf
 refine ⟨{ x:List Path × List Path // s.paths=x.1++x.2 },fun | ⟨(A,B),_⟩=>hsP [1000,1001,1002,1003,1004,1005,1006,1007,1008,1009] 22 [(3,i64 (A.foldl (fun n a=>W (n+a.flight)) 0)),(10,.own 1004),(11,i64 s.paths.length),(12,i64 A.length)] (pH2 s a b),fun x=>x.1.2.length,⟨([],s.paths),rfl⟩,?_,?_⟩
 . exact (hle_Y (pK10 []) (by repeat' (first | exact z0 | refine z1 ?_ | refine ⟨?_,?_⟩ | ((exact zaw om)) | exact z2)))
 rintro ⟨⟨A,B⟩,h⟩
 dsimp only at h
 conv=>whnf
 cases B with
 | cons p B =>
  have hz:=zat h
  refine sT ?_
  refine sO ?_
  refine zah h rfl ?_;conv=>whnf
  refine sR ?_
  refine sF ?_
  exact ⟨⟨(A++[p],B),zag h⟩,(hle_Y (pK10 []) (by repeat' (first | exact z0 | refine z1 ?_ | refine ⟨?_,?_⟩ | ((exact zaw (by rw [List.foldl_append];rfl))) | exact z2))),by simp⟩
 | nil =>
  have hz:=zaz h
  rw [List.append_nil] at h
  refine sN ?_
  (exact zby (pK10 []) (by repeat' (first | exact z0 | refine z1 ?_ | refine ⟨?_,?_⟩ | ((rw [flight,h];rfl)) | exact z2)))
end Snd
namespace Sco
open Ser
theorem zdm (l:List Sent) (cum:Int) (hl:l.length < 2 ^ 38):FunOK Tryz.prog 81 [.own 1000,i64 cum] (lk .free [(1000,sentB l)]) (.tup [i64 (point l cum).1,.own 0]) (lk .free [(1000,sentB l),(0,.ro (.row 180 3 ((point l cum).2.map Skip.row)))]):=by
 refine zal mixed Tryz.func81 (by decide) [1000] zba ?_
 generalize hR:point l cum=R
 conv=>whnf
 refine hcut.meet PUnit (fun _=>hsP [1000] 47 [(1,i64 R.1),(6,.own 900)] [(1000,sentB l),(900,.ro (.row 180 3 (R.2.map Skip.row)))]) ?_ ?_
 . conv=>whnf
   refine ⟨{ x:List Sent × List Sent × Int × List Skip // l=x.1++x.2.1 /\ x.2.2.2.length <= 8 /\ zdg x.2.2.1 x.2.2.2 x.2.1=R },fun | ⟨(a,b,z,sk),_⟩=>hsP [1000] 47 [(1,i64 z),(6,.own 900),(10,.own 1000),(11,i64 l.length),(12,i64 a.length)] [(1000,sentB l),(900,skipB sk)],fun x=>x.1.2.1.length,⟨([],l,cum,[]),rfl,by simp,hR⟩,?_,?_⟩
   . exact (hle_Y [(1000,some 1000),(900,none)] (by repeat' (first | exact z0 | refine z1 ?_ | refine ⟨?_,?_⟩ | ((exact zaw om)) | exact z2)))
   rintro ⟨⟨a,b,z,sk⟩,h,hsk,hi⟩
   dsimp only at h hsk hi
   cases b with
   | nil =>
    have hz:=zaz h
    simp only [zdg] at hi
    subst hi
    conv=>whnf
    refine sN ?_
    exact ⟨⟨⟩,(hle_P [(1000,some 1000),(900,some 900)])⟩
   | cons s b =>
    have hz:=zat h
    simp only [zdg] at hi
    conv=>whnf
    refine sT ?_
    refine sO ?_
    refine zah h rfl ?_;conv=>whnf
    refine sR ?_
    refine zaf (fun c1=>?_) (fun c1=>?_)
    . have c1:s.number ≠ W (z+1):=by simpa using c1
      rw [if_pos (.inl c1)] at hi
      subst hi
      conv=>whnf
      exact ⟨⟨⟩,(hle_P [(1000,some 1000),(900,some 900)])⟩
    have c1:¬ s.number ≠ W (z+1):=by simpa using c1
    conv=>whnf
    have sl:=zvh s.chunk sk
    by_cases c2:s.state=4
    . rw [if_neg (by rintro (h1 | h1);exact c1 h1;exact h1.1 c2),if_pos c2] at hi
      refine sN ?_
      (try (refine hcut.go ?_;conv=>whnf))
      refine sT ?_
      (refine zao [(0,37)]  ?_;(conv=>whnf);refine dO (zqc sk s.chunk (by omega)) ?_)
      refine zaf (fun c3=>?_) (fun c3=>?_)
      . have c3:(skip s.chunk sk).length > 8:=by simp at c3;omega
        rw [if_pos c3] at hi
        subst hi
        conv=>whnf
        exact ⟨⟨⟩,(hle_P [(1000,some 1000),(900,some 900)])⟩
      . have c3:¬ (skip s.chunk sk).length > 8:=by simp at c3;omega
        rw [if_neg c3] at hi
        conv=>whnf
        refine sF ?_
        exact ⟨⟨(a++[s],b,s.number,skip s.chunk sk),zag h,by dsimp only;omega,hi⟩,(hle_P [(1000,some 1000),(900,some 37)]),by simp⟩
    . by_cases c3:s.state=2
      . rw [if_neg (by rintro (h1 | h1);exact c1 h1;exact h1.2 c3),if_neg c2] at hi
        refine sT ?_
        refine sN ?_
        (try (refine hcut.go ?_;conv=>whnf))
        refine sN ?_
        refine sF ?_
        exact ⟨⟨(a++[s],b,s.number,sk),zag h,hsk,hi⟩,(hle_P [(1000,some 1000),(900,some 900)]),by simp⟩
      . rw [if_pos (.inr ⟨c2,c3⟩)] at hi
        subst hi
        refine sT ?_
        refine sT ?_
        exact ⟨⟨⟩,(hle_P [(1000,some 1000),(900,some 900)])⟩
 . rintro ⟨⟩
   conv=>whnf
   (exact zbn [(1000,some 1000),(0,some 900)])
end Sco
namespace Snd
theorem ysk (l:List Queued) (hb:l.length < 2 ^ 39):FunOK Tryz.prog 129 [.own 1000] (lk .free [(1000,.live (.row 117 10 (l.map Queued.row)))]) (.own 0) (lk .free [(1000,.live (.row 117 10 (l.map Queued.row))),(0,.live (.row 117 10 (l.map Queued.row)))]):=by
 refine zal mixed Tryz.func129 (by decide) [1000] zba ?_
 conv=>whnf
 intro b hn
 conv=>whnf
 refine zaf (fun c=>?_) (fun c=>?_)
 . conv=>whnf
   exact yy126
 . conv=>whnf
   refine zaa (c:=(([]:List (List PV)).length+(l.map Queued.row).length) * 96 <= 140737488355328) (by simp;omega) ?_
   exact yy115
theorem ysl (l:List Sent) (hb:l.length < 2 ^ 38):FunOK Tryz.prog 132 [.own 1000] (lk .free [(1000,.live (.row 134 20 (l.map Sent.row)))]) (.own 0) (lk .free [(1000,.live (.row 134 20 (l.map Sent.row))),(0,.live (.row 134 20 (l.map Sent.row)))]):=by
 refine zal mixed Tryz.func132 (by decide) [1000] zba ?_
 conv=>whnf
 intro b hn
 conv=>whnf
 refine zaf (fun c=>?_) (fun c=>?_)
 . conv=>whnf
   exact yy126
 . conv=>whnf
   refine zaa (c:=(([]:List (List PV)).length+(l.map Sent.row).length) * 200 <= 140737488355328) (by simp;omega) ?_
   exact yy115
end Snd
namespace Snd
open Ser Cl
theorem zjy {g:FuncId} {c1:List PV} {p:Queued -> Bool} (hg:∀ m:Queued,FunOK Tryz.prog g [m.hv,.rp c1] zad (hbool (p m)) zad) (q:List Queued) (hb:q.length < 2 ^ 62) :
 FunOK Tryz.prog 158 [.p (.sl 10 (q.map Queued.row)),.clo g [.rp c1]] zad (i64 (zbl p 0 q)) zad:=by
 refine zai mixed Tryz.func158 (by decide) ?_
 conv=>whnf
 refine ⟨{ k:Nat // k <= q.length /\ zbl p k (q.drop k)=zbl p 0 q },fun | ⟨k,_⟩=>hs 19 [(0,.p (.sl 10 (q.map Queued.row))),(1,.clo g [.rp c1]),(7,i64 (q.map Queued.row).length),(8,i64 k)] [],fun k=>q.length - k.1,⟨0,by simp⟩,?_,?_⟩
 . exact (hle_Q [])
 . rintro ⟨k,hk,hi⟩
   exact yy5
theorem zze {g:FuncId} {c1:List PV} {p:Queued -> Bool} (hg:∀ m:Queued,FunOK Tryz.prog g [m.hv,.rp c1] zad (hbool (p m)) zad) (A0 B0:List Queued) (x:Queued) (hA:∀ y ∈ A0,p y=false) (hx:p x=true) (hb:(A0++x :: B0).length < 2 ^ 38) :
 FunOK Tryz.prog 160 [.own 1000,.clo g [.rp c1]] (lk .free [(1000,.live (.row 117 10 ((A0++x :: B0).map Queued.row)))])
  (.osl 1000 10 0 ((A0++x :: B0).filter fun y=>!p y).length) (lk .free [(1000,.live (.row 117 10 ((((A0++x :: B0).filter fun y=>!p y).map Queued.row)++List.replicate ((A0++x :: B0).length - ((A0++x :: B0).filter fun y=>!p y).length) ([pi 0,pi 0,pi 0,pi 0,pi 0,pi 0,pb false,pi 0,pi 0,.v (.slice none 0 0)]))))]):=by
 refine zal mixed Tryz.func160 (by decide) [1000] zba ?_
 have hfA:A0.filter (fun y=>!p y)=A0:=List.filter_eq_self.2 fun y hy=>by rw [hA y hy];rfl
 have hlen:(A0++x :: B0).length=A0.length+1+B0.length:=by simp;omega
 conv=>whnf
 (refine cL ?_;refine dL (zjy hg (A0++x :: B0) (by omega)) ?_)
 rw [zyu A0 B0 x hA hx]
 conv=>whnf
 try (refine hcut.go ?_;conv=>whnf)
 refine sF ?_
 refine ⟨{ y:(List Queued × List Queued) × List Queued × List Queued // A0++x :: B0=y.1.1++y.1.2 /\ y.2.1=y.1.1.filter (fun z=>!p z) /\ 0 < y.2.2.length /\ y.2.1.length+y.2.2.length=y.1.1.length },fun | ⟨((A,B),K,G),_⟩=>hsP [1000] 42 [(0,.own 1000),(1,.clo g [.rp c1]),(5,i64 K.length),(6,i64 A.length)] [(1000,.live (.row 117 10 ((K++G++B).map Queued.row)))],fun y=>y.1.1.2.length,⟨((A0++[x],B0),A0,[x]),by simp,by simp [hfA,hx],by simp,by simp⟩,?_,?_⟩
 . exact (hle_Y [(1000,some 1000)] (by repeat' (first | exact z0 | refine z1 ?_ | refine ⟨?_,?_⟩ | ((exact zaw om)) | ((exact zan (by simp))) | exact z2)))
 rintro ⟨⟨⟨A,B⟩,K,G⟩,h,hK,hG,hl⟩
 dsimp only at h hK hG hl
 have hAB:(A0++x :: B0).length=A.length+B.length:=by rw [h];simp
 conv=>whnf
 cases B with
 | nil =>
  rw [List.length_nil] at hAB
  rw [List.append_nil] at h
  have hF:(A0++x :: B0).filter (fun z=>!p z)=K:=by rw [h,hK]
  refine zab (by simp;omega) ?_;conv=>whnf
  try (refine hcut.go ?_;conv=>whnf)
  refine sOm ?_
  refine sOm ?_
  refine zaa (by simp [splice];omega) ?_;conv=>whnf
  refine zak [(1000,some 1000)] rfl rfl ⟨rfl,trivial⟩ rfl ?_ ⟨⟨rfl,.inl ⟨1000,rfl,?_⟩⟩,trivial⟩
  . show HV.osl 1000 10 0 _=HV.osl 1000 10 0 _
    rw [hF];rfl
  . refine zan ?_
    exact yy117
 | cons v B =>
  rw [List.length_cons] at hAB
  have e1:K++G++v :: B=(K++G)++v :: B:=rfl
  refine zac (by simp;omega) ?_;conv=>whnf
  try (refine hcut.go ?_;conv=>whnf)
  refine sO ?_
  refine zah e1 (by simp;omega) ?_;conv=>whnf
  (refine cZ ?_;refine dL (hg v) ?_)
  cases hv:p v with
  | true =>
   exact yy71
  | false =>
   obtain ⟨g0,G,rfl⟩:∃ g0 G',G=g0 :: G':=by cases G with
    | nil=>simp at hG
    | cons a b=>exact ⟨a,b,rfl⟩
   have e2:K++(g0 :: G)++v :: B=K++g0 :: (G++v :: B):=by simp
   rw [List.length_cons] at hl
   conv=>whnf
   try (refine hcut.go ?_;conv=>whnf)
   refine sO ?_
   refine zah e2 (by simp) ?_;conv=>whnf
   refine sF ?_
   refine sF ?_
   refine ⟨⟨((A++[v],B),K++[v],G++[v]),by rw [h];simp,by rw [List.filter_append,<- hK];simp [hv],by simp,by simp;omega⟩,(hle_Y [(1000,some 1000)] (by repeat' (first | exact z0 | refine z1 ?_ | refine ⟨?_,?_⟩ | ((exact zaw om)) | ((exact (zcw (f:=Queued.row) (a:=K) (b:=G++v :: B) (x:=g0) (y:=v) (by simp) rfl).symm.trans (zan (by simp)))) | ((refine (yfn e2 ?_ rfl).trans (zan (by simp));simp)) | exact z2))),by simp⟩
theorem zsz {g:FuncId} {c1:List PV} {p:Queued -> Bool} (hg:∀ m:Queued,FunOK Tryz.prog g [m.hv,.rp c1] zad (hbool (p m)) zad) (l:List Queued) (hb:l.length < 2 ^ 38) :
 FunOK Tryz.prog 160 [.own 1000,.clo g [.rp c1]] (lk .free [(1000,.live (.row 117 10 (l.map Queued.row)))])
  (.own 0) (lk .free [(1000,.dead),(0,.live (.row 117 10 ((l.filter fun y=>!p y).map Queued.row)))]):=by
 rcases zyv p l with ⟨h1,h2⟩ | ⟨A,x,B,rfl,hA,hx⟩
 . refine zal mixed Tryz.func160 (by decide) [1000] zba ?_
   rw [List.filter_eq_self.2 fun y hy=>by rw [h2 y hy];rfl]
   conv=>whnf
   (refine cL ?_;refine dL (zjy hg l (by omega)) ?_)
   exact yy110
 . have h:=zgx (d:=0) (L:=[]) (rows:=(((A++x :: B).filter fun y=>!p y).map Queued.row)++List.replicate ((A++x :: B).length - ((A++x :: B).filter fun y=>!p y).length) ([pi 0,pi 0,pi 0,pi 0,pi 0,pi 0,pb false,pi 0,pi 0,.v (.slice none 0 0)])) (zze hg A B x hA hx hb) (.inl rfl) (by simp) rfl (by decide)
   rwa [List.take_left' (by simp)] at h
theorem zta (id:Int) (m:Queued):FunOK Tryz.prog 161 [m.hv,.rp [pi id]] zad (hbool (m.id == id)) zad:=by
 refine zai mixed Tryz.func161 (by decide) ?_
 conv=>whnf
theorem ycu (f:Nat -> Path -> Path) (A:List Path) (p:Path) (B:List Path):(A++[p]).mapIdx f++B=A.mapIdx f++f A.length p :: B:=by
 rw [List.mapIdx_concat];simp
theorem zvm (s:Sender)  (h3:Sco.Sized s.out) (h4:s.paths.length < 2 ^ 22):FunOK Tryz.prog 78 [.ptr 1000 0] (lk .free (pH0 s )) (.tup []) (lk .free (pD0 (flights s) )):=by
 refine zal mixed Tryz.func78 (by decide) [1000,1001,1002,1003,1004,1005,1006] zba ?_
 conv=>whnf
 refine ⟨{ x:List Path × List Path // s.paths=x.1++x.2 },fun | ⟨(A,B),_⟩=>hsP [1000,1001,1002,1003,1004,1005,1006] 25 [(0,.ptr 1000 0),(7,i64 s.paths.length),(8,i64 A.length)] (pH0 { s with paths:=A.mapIdx (flP s.out)++B } ),fun x=>x.1.2.length,⟨([],s.paths),rfl⟩,?_,?_⟩
 . exact (hle_Y (pK7 []) (by repeat' (first | exact z0 | refine z1 ?_ | refine ⟨?_,?_⟩ | ((exact zaw om)) | exact z2)))
 rintro ⟨⟨A,B⟩,h⟩
 dsimp only at h
 conv=>whnf
 cases B with
 | cons p B =>
  have hz:=zat h
  refine sT ?_
  (refine cL ?_;refine dL (Sco.zkl s.out A.length h3) ?_)
  refine sOm ?_
  refine zah (a:=A.mapIdx (flP s.out)) (b:=B) (s:=p) rfl (by simp) ?_;conv=>whnf
  refine sD ?_
  refine sF ?_
  exact ⟨⟨(A++[p],B),zag h⟩,(hle_Y (pK7 []) (by repeat' (first | exact z0 | refine z1 ?_ | refine ⟨?_,?_⟩ | ((rw [ycu];exact (zcw (by simp) rfl).symm)) | exact z2))),by simp⟩
 | nil =>
  have hz:=zaz h
  rw [List.append_nil] at h
  refine sN ?_
  (exact zby (pK7 [(0,some 1001),(1,some 1002),(2,some 1003),(3,some 1004),(4,some 1005),(5,some 1006)]) (by repeat' (first | exact z0 | refine z1 ?_ | refine ⟨?_,?_⟩ | ((exact zan (by rw [flights,h,List.append_nil]))) | exact z2)))
theorem zlk (s:Sender)  (h3:Sco.Sized s.out) (h4:s.paths.length < 2 ^ 22):FunOK Tryz.prog 78 [.ptr 1000 0] (lk .free (pH3 s )) (.tup []) (lk .free (pD3 (flights s) )):=by
 refine zal mixed Tryz.func78 (by decide) [1000,1001,1002,1003,1004,1005,1006,1007] zba ?_
 conv=>whnf
 refine ⟨{ x:List Path × List Path // s.paths=x.1++x.2 },fun | ⟨(A,B),_⟩=>hsP [1000,1001,1002,1003,1004,1005,1006,1007] 25 [(0,.ptr 1000 0),(7,i64 s.paths.length),(8,i64 A.length)] (pH3 { s with paths:=A.mapIdx (flP s.out)++B } ),fun x=>x.1.2.length,⟨([],s.paths),rfl⟩,?_,?_⟩
 . exact (hle_Y (pK8 []) (by repeat' (first | exact z0 | refine z1 ?_ | refine ⟨?_,?_⟩ | ((exact zaw om)) | exact z2)))
 exact yy30
theorem zll (s:Sender)  (h3:Sco.Sized s.out) (h4:s.paths.length < 2 ^ 22):FunOK Tryz.prog 78 [.ptr 1000 0] (lk .free (pH4 s )) (.tup []) (lk .free (pD4 (flights s) )):=by
 refine zal mixed Tryz.func78 (by decide) [1000,1001,1002,1003,1004,1005,1006,1007] zba ?_
 conv=>whnf
 refine ⟨{ x:List Path × List Path // s.paths=x.1++x.2 },fun | ⟨(A,B),_⟩=>hsP [1000,1001,1002,1003,1004,1005,1006,1007] 25 [(0,.ptr 1000 0),(7,i64 s.paths.length),(8,i64 A.length)] (pH4 { s with paths:=A.mapIdx (flP s.out)++B } ),fun x=>x.1.2.length,⟨([],s.paths),rfl⟩,?_,?_⟩
 . exact (hle_Y (pK8 []) (by repeat' (first | exact z0 | refine z1 ?_ | refine ⟨?_,?_⟩ | ((exact zaw om)) | exact z2)))
 exact yy30
end Snd
namespace Snd
open Ser
theorem yqs (id:Int) (s:Sender) (m:Queued):(end1 id s m).out.length <= s.out.length+1 /\ Sco.total (end1 id s m).out=Sco.total s.out:=by
 unfold end1
 split
 . simp [Sco.total,endOf]
 . exact ⟨by omega,rfl⟩
theorem zvn (id:Int):∀ (q:List Queued) (s:Sender),(q.foldl (end1 id) s).out.length <= s.out.length+q.length /\ Sco.total (q.foldl (end1 id) s).out=Sco.total s.out
 | [],s=>⟨by simp,rfl⟩
 | m :: q,s=>by
  obtain ⟨h1,h2⟩:=yqs id s m
  obtain ⟨h3,h4⟩:=zvn id q (end1 id s m)
  simp only [List.foldl_cons,List.length_cons]
  exact ⟨by omega,by omega⟩
theorem ztb (id:Int) (s:Sender) (m:Queued):end1 id s m={ s with out:=(end1 id s m).out,next:=(end1 id s m).next }:=by
 unfold end1;split <;> rfl
theorem zjo (id:Int):∀ (q:List Queued) (s:Sender),q.foldl (end1 id) s={ s with out:=(q.foldl (end1 id) s).out,next:=(q.foldl (end1 id) s).next }
 | [],s=>rfl
 | m :: q,s=>by
  have h1:=ztb id s m
  have h2:=zjo id q (end1 id s m)
  simp only [List.foldl_cons]
  rw [h2]
  generalize q.foldl (end1 id) (end1 id s m)=z
  rw [h1]
theorem zhf (id:Int) (l:List Sent):Sco.total (l.map (Sco.give id))=Sco.total l:=by
 have:∀ s:Sent,(Sco.give id s).chunk=s.chunk:=fun s=>by unfold Sco.give;split <;> rfl
 simp only [Sco.total,List.map_map]
 congr 1
 exact List.map_congr_left fun s _=>by simp [this]
def giveF (s:Sender) (id:Nat) (o:List Sent) (n:Int):Sender:={ s with fates:=s.fates.set id 3,out:=o,next:=n }
theorem ymi (s:Sender) (id:Nat) (q:List Queued):∃ o n,q.foldl (end1 id) { s with fates:=s.fates.set id 3 }=giveF s id o n /\ o.length <= s.out.length+q.length /\ Sco.total o=Sco.total s.out:=by
 have h1:=zjo id q { s with fates:=s.fates.set id 3 }
 obtain ⟨h2,h3⟩:=zvn id q { s with fates:=s.fates.set id 3 }
 exact ⟨_,_,h1,h2,h3⟩
theorem zqi (s:Sender)  (id:Nat) (hs:Fit s) (hid:id < s.fates.length) (h9:s.out.length < 2 ^ 30):FunOK Tryz.prog 131 [.ptr 1000 0,i64 id] (lk .free (pH3 s )) (.tup []) (lk .free (pD3 (giveS s id) )):=by
 obtain ⟨h1,h2,h3,h4,h5,h6,h7⟩:=hs
 have hg:giveS s id=flights { (s.queue.foldl (end1 id) { s with fates:=s.fates.set id 3 }) with queue:=s.queue.filter fun m=>decide (m.id ≠ id),sched:=if s.sched.hand=id then { s.sched with hand:=-1 } else s.sched,out:=(s.queue.foldl (end1 id) { s with fates:=s.fates.set id 3 }).out.map (Sco.give id),forward:=true }:=rfl
 refine zal mixed Tryz.func131 (by decide) [1000,1001,1002,1003,1004,1005,1006,1007] zba ?_
 conv=>whnf
 refine sO ?_
 refine zbe id rfl hid ?_;conv=>whnf
 refine sD ?_
 refine ⟨{ x:(List Queued × List Queued) × List Sent × Int // s.queue=x.1.1++x.1.2 /\ x.1.1.foldl (end1 id) { s with fates:=s.fates.set id 3 }=giveF s id x.2.1 x.2.2 /\ x.2.1.length <= s.out.length+x.1.1.length /\ Sco.total x.2.1=Sco.total s.out },
  fun | ⟨((A,B),o,n),_⟩=>hsP [1000,1001,1002,1003,1004,1005,1006,1007] 121 [(0,.ptr 1000 0),(3,.ptr 3 0),(17,.own 1001),(18,i64 s.queue.length),(19,i64 A.length)] (snG3 (giveF s id o n)  1001 1002 900 1004 1005 1006 1007 [(1003,.dead),(3,.live (.cells 3 [i64 id]))]),fun x=>x.1.1.2.length,⟨(([],s.queue),s.out,s.next),rfl,rfl,by simp,rfl⟩,?_,?_⟩
 . exact (hle_Y (pK8 ((900,some 1003) :: [(3,some 3)])) (by repeat' (first | exact z0 | refine z1 ?_ | refine ⟨?_,?_⟩ | ((exact zaw om)) | ((exact zan (by simp [giveF,List.map_set]))) | exact z2)))
 rintro ⟨⟨⟨A,B⟩,o,n⟩,k1,k2,k3,k4⟩
 dsimp only at k1 k2 k3 k4
 conv=>whnf
 cases B with
 | cons m B =>
  exact yy13
 | nil =>
  have hz:=zaz k1
  rw [List.append_nil] at k1
  rw [<- k1] at k2
  rw [hg,k2]
  refine sN ?_
  (refine zae [false,true] [(1000,1001)] [(0,85)] ?_;(conv=>whnf);refine dG (zsz (fun m=>zta id m) s.queue (by omega)) ?_)
  have hsz:Sco.Sized o:=⟨by omega,by rw [k4];exact h3.bytes⟩
  by_cases c1:s.sched.hand=id
  . rw [if_pos c1]
    refine sD ?_
    refine zac ?_ ?_
    . simp [giveF,c1]
    conv=>whnf
    repeat (refine hcut.go ?_;conv=>whnf)
    (refine zao [(0,109)] ?_;(conv=>whnf);refine dO (Sco.zlh o id hsz) ?_)
    refine sD ?_
    (refine zae [] [(1000,1000),(1001,85),(1002,1002),(1003,109),(1004,1004),(1005,1005),(1006,1006),(1007,1007)] [(0,910),(1,911),(2,912),(3,913),(4,914),(5,915)] ?_;(conv=>whnf);refine dG (zlk { (giveF s id o n) with queue:=s.queue.filter fun m=>!(m.id == (id:Int)),sched:={ s.sched with hand:=-1 },out:=o.map (Sco.give id) }  ⟨by simp;exact hsz.len,by rw [zhf];exact hsz.bytes⟩ h4) ?_)
    exact yy28
  . rw [if_neg c1]
    refine sD ?_
    refine zab ?_ ?_
    . simp [giveF,c1]
    conv=>whnf
    repeat (refine hcut.go ?_;conv=>whnf)
    (refine zao [(0,109)] ?_;(conv=>whnf);refine dO (Sco.zlh o id hsz) ?_)
    refine sD ?_
    (refine zae [] [(1000,1000),(1001,85),(1002,1002),(1003,109),(1004,1004),(1005,1005),(1006,1006),(1007,1007)] [(0,910),(1,911),(2,912),(3,913),(4,914),(5,915)] ?_;(conv=>whnf);refine dG (zlk { (giveF s id o n) with queue:=s.queue.filter fun m=>!(m.id == (id:Int)),sched:=s.sched,out:=o.map (Sco.give id) }  ⟨by simp;exact hsz.len,by rw [zhf];exact hsz.bytes⟩ h4) ?_)
    exact yy28
theorem zqj (s:Sender)  (id:Nat) (hs:Fit s) (hid:id < s.fates.length) (h9:s.out.length < 2 ^ 30):FunOK Tryz.prog 131 [.ptr 1000 0,i64 id] (lk .free (pH4 s )) (.tup []) (lk .free (pD4 (giveS s id) )):=by
 obtain ⟨h1,h2,h3,h4,h5,h6,h7⟩:=hs
 have hg:giveS s id=flights { (s.queue.foldl (end1 id) { s with fates:=s.fates.set id 3 }) with queue:=s.queue.filter fun m=>decide (m.id ≠ id),sched:=if s.sched.hand=id then { s.sched with hand:=-1 } else s.sched,out:=(s.queue.foldl (end1 id) { s with fates:=s.fates.set id 3 }).out.map (Sco.give id),forward:=true }:=rfl
 refine zal mixed Tryz.func131 (by decide) [1000,1001,1002,1003,1004,1005,1006,1007] zba ?_
 conv=>whnf
 refine sO ?_
 refine zbe id rfl hid ?_;conv=>whnf
 refine sD ?_
 refine ⟨{ x:(List Queued × List Queued) × List Sent × Int // s.queue=x.1.1++x.1.2 /\ x.1.1.foldl (end1 id) { s with fates:=s.fates.set id 3 }=giveF s id x.2.1 x.2.2 /\ x.2.1.length <= s.out.length+x.1.1.length /\ Sco.total x.2.1=Sco.total s.out },
  fun | ⟨((A,B),o,n),_⟩=>hsP [1000,1001,1002,1003,1004,1005,1006,1007] 121 [(0,.ptr 1000 0),(3,.ptr 3 0),(17,.own 1001),(18,i64 s.queue.length),(19,i64 A.length)] (snG4 (giveF s id o n)  1001 1002 900 1004 1005 1006 1007 [(1003,.dead),(3,.live (.cells 3 [i64 id]))]),fun x=>x.1.1.2.length,⟨(([],s.queue),s.out,s.next),rfl,rfl,by simp,rfl⟩,?_,?_⟩
 . exact (hle_Y (pK8 ((900,some 1003) :: [(3,some 3)])) (by repeat' (first | exact z0 | refine z1 ?_ | refine ⟨?_,?_⟩ | ((exact zaw om)) | ((exact zan (by simp [giveF,List.map_set]))) | exact z2)))
 rintro ⟨⟨⟨A,B⟩,o,n⟩,k1,k2,k3,k4⟩
 dsimp only at k1 k2 k3 k4
 conv=>whnf
 cases B with
 | cons m B =>
  exact yy13
 | nil =>
  have hz:=zaz k1
  rw [List.append_nil] at k1
  rw [<- k1] at k2
  rw [hg,k2]
  refine sN ?_
  (refine zae [false,true] [(1000,1001)] [(0,85)] ?_;(conv=>whnf);refine dG (zsz (fun m=>zta id m) s.queue (by omega)) ?_)
  have hsz:Sco.Sized o:=⟨by omega,by rw [k4];exact h3.bytes⟩
  by_cases c1:s.sched.hand=id
  . rw [if_pos c1]
    refine sD ?_
    refine zac ?_ ?_
    . simp [giveF,c1]
    conv=>whnf
    repeat (refine hcut.go ?_;conv=>whnf)
    (refine zao [(0,109)] ?_;(conv=>whnf);refine dO (Sco.zlh o id hsz) ?_)
    refine sD ?_
    (refine zae [] [(1000,1000),(1001,85),(1002,1002),(1003,109),(1004,1004),(1005,1005),(1006,1006),(1007,1007)] [(0,910),(1,911),(2,912),(3,913),(4,914),(5,915)] ?_;(conv=>whnf);refine dG (zll { (giveF s id o n) with queue:=s.queue.filter fun m=>!(m.id == (id:Int)),sched:={ s.sched with hand:=-1 },out:=o.map (Sco.give id) }  ⟨by simp;exact hsz.len,by rw [zhf];exact hsz.bytes⟩ h4) ?_)
    exact yy28
  . rw [if_neg c1]
    refine sD ?_
    refine zab ?_ ?_
    . simp [giveF,c1]
    conv=>whnf
    repeat (refine hcut.go ?_;conv=>whnf)
    (refine zao [(0,109)] ?_;(conv=>whnf);refine dO (Sco.zlh o id hsz) ?_)
    refine sD ?_
    (refine zae [] [(1000,1000),(1001,85),(1002,1002),(1003,109),(1004,1004),(1005,1005),(1006,1006),(1007,1007)] [(0,910),(1,911),(2,912),(3,913),(4,914),(5,915)] ?_;(conv=>whnf);refine dG (zll { (giveF s id o n) with queue:=s.queue.filter fun m=>!(m.id == (id:Int)),sched:=s.sched,out:=o.map (Sco.give id) }  ⟨by simp;exact hsz.len,by rw [zhf];exact hsz.bytes⟩ h4) ?_)
    exact yy28
end Snd
namespace Snd
open Ser
theorem zaj {α:Type} {f:α -> List PV} {l:List α} {i:Nat} {x:α} {z:Int} {K:List PV -> Prop} (hx:l[i]?=some x) (hz:z=i) (hk:K (f x)):hrow (l.map f) z K :=
 ⟨_,by omega,by rw [hz,Int.toNat_natCast,List.getElem?_map,hx];rfl,hk⟩
theorem zdn {α:Type} {t n:Nat} {f:α -> List PV} {l:List α} {k:Nat} {y:α} {r:List PV} (hr:f y=r):HSlot.live (.row t n ((l.map f).set k r))=HSlot.live (.row t n ((l.set k y).map f)):=by
 rw [<- hr,List.map_set]
theorem zvo {α:Type} {t n:Nat} {f:α -> List PV} {l:List α} {k:Nat} {y:α} {r r1 r2 r3:List PV} (hr:f y=r):HSlot.live (.row t n (((((l.map f).set k r1).set k r2).set k r3).set k r))=HSlot.live (.row t n ((l.set k y).map f)):=by
 rw [List.set_set,List.set_set,List.set_set];exact zdn hr
theorem zvp {t:TypeId} {l:List Path} {k:Nat} {w:Path} {d:List UInt8}:HSlot.live (.row t 7 ((l.map Path.row).set k [pi w.window,pi w.slow,pi w.gathered,pi (W (w.flight+((d.map bRow).length:Int))),pi w.errors,pi w.alarm,pi w.wait]))=HSlot.live (.row t 7 ((l.set k { w with flight:=W (w.flight+d.length) }).map Path.row)):=by
 rw [List.length_map];exact zdn rfl
def flyS (s:Sender) (i path:Nat) (x:Sent) (a:Path):Sender:={ s with out:=s.out.set i (flyX x path),paths:=s.paths.set path { a with flight:=W (a.flight+x.chunk.data.length) } }
theorem ztc {s:Sender} {o:List (List Chunk)} {i path:Nat} {x:Sent} {a:Path} {l:List Chunk} (hx:s.out[i]?=some x) (ha:s.paths[path]?=some a) (hl:o[path]?=some l) :
 fly ⟨s,o⟩ i path=⟨flyS s i path x a,o.set path (l++[x.chunk])⟩:=by
 simp only [fly,hx,setAt,ha,hl,flyS]
theorem zkm (s:Sender) (a:List Chunk) (i:Nat) (x:Sent) (w:Path) (hx:s.out[i]?=some x) (ha:s.paths[0]?=some w) (hb:a.length < 2 ^ 30) :
 FunOK Tryz.prog 134 [.ptr 1000 0,.eptr 1003 20 i 0,i64 0] (lk .free (pH1 s a)) (.tup []) (lk .free (snG1 (flyS s i 0 x w) (a++[x.chunk]) 1001 1002 1003 1004 1005 1006 1007 0 [(1008,.dead)])):=by
 refine zal mixed Tryz.func134 (by decide) [1000,1001,1002,1003,1004,1005,1006,1007,1008] zba ?_
 have hi:i < s.out.length:=(List.getElem?_eq_some_iff.1 hx).1
 have hp:0 < s.paths.length:=(List.getElem?_eq_some_iff.1 ha).1
 conv=>whnf
 refine zaj hx rfl ?_;conv=>whnf
 refine zbj rfl (by simp;omega) ?_;conv=>whnf
 refine zbj rfl (by simp;omega) ?_;conv=>whnf
 refine zbj rfl (by simp;omega) ?_;conv=>whnf
 refine sR ?_
 refine zbj rfl (by simp;omega) ?_;conv=>whnf
 refine sOm ?_
 refine zaj ha rfl ?_;conv=>whnf
 refine zbj rfl (by simp;omega) ?_;conv=>whnf
 refine sR ?_
 refine sOm ?_
 refine zaj ha rfl ?_;conv=>whnf
 refine sD ?_
 refine ⟨0,rfl,by decide,?_⟩;conv=>whnf
 refine zbj rfl (by simp;omega) ?_;conv=>whnf
 refine zaa (c:=((a.map Chunk.row).length+1) * 128 <= 140737488355328) (by simp;omega) ?_;conv=>whnf
 refine ⟨0,rfl,by decide,?_⟩;conv=>whnf
 refine sD ?_
 (exact zby (pK9 [(0,some 58)]) (by repeat' (first | exact z0 | refine z1 ?_ | refine ⟨?_,?_⟩ | ((exact zvo rfl)) | ((exact zvp)) | ((exact zau (f:=Chunk.row) rfl rfl)) | exact z2)))
theorem zkn (s:Sender) (a b:List Chunk) (i:Nat) (x:Sent) (w:Path) (hx:s.out[i]?=some x) (ha:s.paths[0]?=some w) (hb:a.length < 2 ^ 30) :
 FunOK Tryz.prog 134 [.ptr 1000 0,.eptr 1003 20 i 0,i64 0] (lk .free (pH2 s a b)) (.tup []) (lk .free (snG2 (flyS s i 0 x w) (a++[x.chunk]) b 1001 1002 1003 1004 1005 1006 1007 0 1009 [(1008,.dead)])):=by
 refine zal mixed Tryz.func134 (by decide) [1000,1001,1002,1003,1004,1005,1006,1007,1008,1009] zba ?_
 have hi:i < s.out.length:=(List.getElem?_eq_some_iff.1 hx).1
 have hp:0 < s.paths.length:=(List.getElem?_eq_some_iff.1 ha).1
 conv=>whnf
 refine zaj hx rfl ?_;conv=>whnf
 refine zbj rfl (by simp;omega) ?_;conv=>whnf
 refine zbj rfl (by simp;omega) ?_;conv=>whnf
 refine zbj rfl (by simp;omega) ?_;conv=>whnf
 refine sR ?_
 refine zbj rfl (by simp;omega) ?_;conv=>whnf
 refine sOm ?_
 refine zaj ha rfl ?_;conv=>whnf
 refine zbj rfl (by simp;omega) ?_;conv=>whnf
 refine sR ?_
 refine sOm ?_
 refine zaj ha rfl ?_;conv=>whnf
 refine sD ?_
 refine ⟨0,rfl,by decide,?_⟩;conv=>whnf
 refine zbj rfl (by simp;omega) ?_;conv=>whnf
 refine zaa (c:=((a.map Chunk.row).length+1) * 128 <= 140737488355328) (by simp;omega) ?_;conv=>whnf
 refine ⟨0,rfl,by decide,?_⟩;conv=>whnf
 exact yy105
theorem zko (s:Sender) (a b:List Chunk) (i:Nat) (x:Sent) (w:Path) (hx:s.out[i]?=some x) (ha:s.paths[1]?=some w) (hb:b.length < 2 ^ 30) :
 FunOK Tryz.prog 134 [.ptr 1000 0,.eptr 1003 20 i 0,i64 1] (lk .free (pH2 s a b)) (.tup []) (lk .free (snG2 (flyS s i 1 x w) a (b++[x.chunk]) 1001 1002 1003 1004 1005 1006 1007 1008 0 [(1009,.dead)])):=by
 refine zal mixed Tryz.func134 (by decide) [1000,1001,1002,1003,1004,1005,1006,1007,1008,1009] zba ?_
 have hi:i < s.out.length:=(List.getElem?_eq_some_iff.1 hx).1
 have hp:1 < s.paths.length:=(List.getElem?_eq_some_iff.1 ha).1
 conv=>whnf
 refine zaj hx rfl ?_;conv=>whnf
 refine zbj rfl (by simp;omega) ?_;conv=>whnf
 refine zbj rfl (by simp;omega) ?_;conv=>whnf
 refine zbj rfl (by simp;omega) ?_;conv=>whnf
 refine sR ?_
 refine zbj rfl (by simp;omega) ?_;conv=>whnf
 refine sOm ?_
 refine zaj ha rfl ?_;conv=>whnf
 refine zbj rfl (by simp;omega) ?_;conv=>whnf
 refine sR ?_
 refine sOm ?_
 refine zaj ha rfl ?_;conv=>whnf
 refine sD ?_
 refine ⟨1,rfl,by decide,?_⟩;conv=>whnf
 refine zbj rfl (by simp;omega) ?_;conv=>whnf
 refine zaa (c:=((b.map Chunk.row).length+1) * 128 <= 140737488355328) (by simp;omega) ?_;conv=>whnf
 refine ⟨1,rfl,by decide,?_⟩;conv=>whnf
 exact yy105
end Snd
namespace Snd
open Ser
def midS (s:Sender) (k:Nat) (m:Queued):Sender:={ s with queue:=s.queue.set k { m with mid:=midOf s m },mids:=zcm s m }
structure MFit (s:Sender) (m:Queued):Prop where
 lo:0 <= m.message.stream
 hi:m.message.stream < 2 ^ 40
 lo2:0 <= s.config.streams
 hi2:s.config.streams < 2 ^ 40
 at_:m.mid < 0 -> midAt s m < s.mids.length
theorem zhv {α:Type} {l:List α} {k:Nat} {x:α} (h:l[k]?=some x):l.set k x=l:=by
 obtain ⟨hk,rfl⟩:=List.getElem?_eq_some_iff.1 h
 exact List.set_getElem_self hk
theorem zzf {s:Sender} {k:Nat} {m:Queued} (hk:s.queue[k]?=some m) (h:midOf s m=m.mid):(midS s k m).queue=s.queue:=by
 show s.queue.set k { m with mid:=midOf s m }=_
 rw [h];exact zhv hk
theorem zvq {s:Sender} {k:Nat} {m:Queued} {v:Int} {t:TypeId} (h:midOf s m=v):HSlot.live (.row t 10 ((s.queue.map Queued.row).set k ({ m with mid:=v }:Queued).row))=HSlot.live (.row t 10 ((midS s k m).queue.map Queued.row)):=by
 rw [<- h];exact zdn rfl
theorem zzg (s:Sender) (a:List Chunk) (k:Nat) (m:Queued) (hk:s.queue[k]?=some m) (hf:MFit s m) :
 FunOK Tryz.prog 137 [.ptr 1000 0,.eptr 1001 10 k 0] (lk .free (pH1 s a)) (i64 (midOf s m)) (lk .free (pH1 (midS s k m) a)):=by
 obtain ⟨f1,f2,f3,f4,f5⟩:=hf
 have hk':k < s.queue.length:=(List.getElem?_eq_some_iff.1 hk).1
 refine zal mixed Tryz.func137 (by decide) [1000,1001,1002,1003,1004,1005,1006,1007,1008] zba ?_
 conv=>whnf
 refine hcut.go ?_;conv=>whnf
 refine zaj hk rfl ?_;conv=>whnf
 by_cases c1:m.mid < 0
 . have f5:=f5 c1
   obtain ⟨v,hv⟩:∃ v,s.mids[midAt s m]?=some v:=⟨_,List.getElem?_eq_getElem f5⟩
   have hmo:midOf s m=v:=by rw [midOf,if_pos c1,hv];rfl
   have hms:zcm s m=s.mids.set (midAt s m) (W (v+1)):=by rw [zcm,if_pos c1,setAt,hv]
   refine sT ?_
   refine zaj hk rfl ?_;conv=>whnf
   repeat (refine hcut.go ?_;conv=>whnf)
   refine zaj hk rfl ?_;conv=>whnf
   repeat (refine hcut.go ?_;conv=>whnf)
   cases c2:m.message.ordered with
   | true =>
    have hat:midAt s m=m.message.stream.toNat:=by rw [midAt,c2];simp
    conv=>whnf
    repeat (refine hcut.go ?_;conv=>whnf)
    exact yy46
   | false =>
    have hat:midAt s m=(m.message.stream+s.config.streams).toNat:=by rw [midAt,c2];simp
    conv=>whnf
    repeat (refine hcut.go ?_;conv=>whnf)
    refine sF ?_
    exact yy46
 . refine sN ?_
   repeat (refine hcut.go ?_;conv=>whnf)
   refine zaj hk rfl ?_;conv=>whnf
   have hmo:midOf s m=m.mid:=by rw [midOf,if_neg c1]
   have hms:zcm s m=s.mids:=by rw [zcm,if_neg c1]
   (exact zby (pK9 []) (by repeat' (first | exact z0 | refine z1 ?_ | refine ⟨?_,?_⟩ | ((rw [hmo];rfl)) | ((exact zan (by rw [zzf hk hmo]))) | ((exact zan (by rw [show (midS s k m).mids=s.mids from hms]))) | exact z2)))
theorem zlm (s:Sender) (a b:List Chunk) (k:Nat) (m:Queued) (hk:s.queue[k]?=some m) (hf:MFit s m) :
 FunOK Tryz.prog 137 [.ptr 1000 0,.eptr 1001 10 k 0] (lk .free (pH2 s a b)) (i64 (midOf s m)) (lk .free (pH2 (midS s k m) a b)):=by
 obtain ⟨f1,f2,f3,f4,f5⟩:=hf
 have hk':k < s.queue.length:=(List.getElem?_eq_some_iff.1 hk).1
 refine zal mixed Tryz.func137 (by decide) [1000,1001,1002,1003,1004,1005,1006,1007,1008,1009] zba ?_
 conv=>whnf
 refine hcut.go ?_;conv=>whnf
 refine zaj hk rfl ?_;conv=>whnf
 by_cases c1:m.mid < 0
 . have f5:=f5 c1
   obtain ⟨v,hv⟩:∃ v,s.mids[midAt s m]?=some v:=⟨_,List.getElem?_eq_getElem f5⟩
   have hmo:midOf s m=v:=by rw [midOf,if_pos c1,hv];rfl
   have hms:zcm s m=s.mids.set (midAt s m) (W (v+1)):=by rw [zcm,if_pos c1,setAt,hv]
   refine sT ?_
   refine zaj hk rfl ?_;conv=>whnf
   repeat (refine hcut.go ?_;conv=>whnf)
   refine zaj hk rfl ?_;conv=>whnf
   repeat (refine hcut.go ?_;conv=>whnf)
   cases c2:m.message.ordered with
   | true =>
    have hat:midAt s m=m.message.stream.toNat:=by rw [midAt,c2];simp
    conv=>whnf
    repeat (refine hcut.go ?_;conv=>whnf)
    exact yy45
   | false =>
    have hat:midAt s m=(m.message.stream+s.config.streams).toNat:=by rw [midAt,c2];simp
    conv=>whnf
    repeat (refine hcut.go ?_;conv=>whnf)
    refine sF ?_
    exact yy45
 . refine sN ?_
   repeat (refine hcut.go ?_;conv=>whnf)
   refine zaj hk rfl ?_;conv=>whnf
   have hmo:midOf s m=m.mid:=by rw [midOf,if_neg c1]
   have hms:zcm s m=s.mids:=by rw [zcm,if_neg c1]
   (exact zby (pK10 []) (by repeat' (first | exact z0 | refine z1 ?_ | refine ⟨?_,?_⟩ | ((rw [hmo];rfl)) | ((exact zan (by rw [zzf hk hmo]))) | ((exact zan (by rw [show (midS s k m).mids=s.mids from hms]))) | exact z2)))
end Snd
namespace Snd
open Ser
theorem yqt (id:Int) (s:Sender) (m:Queued):(end1 id s m).out.length=s.out.length+(if m.id=id /\ m.parts > 0 then 1 else 0):=by
 unfold end1;split <;> simp
theorem yfx (id:Int):∀ (q:List Queued) (s:Sender),(q.foldl (end1 id) s).out.length+(q.filter fun m=>decide (m.id ≠ id)).length <= s.out.length+q.length
 | [],s=>by simp
 | m :: q,s=>by
  have h1:=yqt id s m
  have h2:=yfx id q (end1 id s m)
  rw [List.foldl_cons,List.filter_cons,List.length_cons]
  by_cases c:m.id=id
  . simp [c] at h1 h2 ⊢;split at h1 <;> omega
  . simp [c] at h1 h2 ⊢;omega
theorem yfy (id:Int):∀ (q:List Queued) (s:Sender),∀ x ∈ (q.foldl (end1 id) s).out,x ∈ s.out \/ x.id=id
 | [],s,x,h=>.inl h
 | m :: q,s,x,h=>by
  rcases yfy id q (end1 id s m) x h with h | h
  . unfold end1 at h
    split at h
    . rename_i c
      rcases List.mem_append.1 h with h | h
      . exact .inl h
      . rw [List.mem_singleton] at h;subst h;exact .inr c.1
    . exact .inl h
  . exact .inr h
structure GFit (s:Sender):Prop where
 fit:Fit s
 sum:s.out.length+s.queue.length < 2 ^ 30
 qid:∀ m ∈ s.queue,0 <= m.id /\ m.id < s.fates.length
 xid:∀ x ∈ s.out,0 <= x.id /\ x.id < s.fates.length
structure Rest (s t:Sender):Prop where
 config:t.config=s.config
 clock:t.clock=s.clock
 had:t.sched.had=s.sched.had
 paths:t.paths.length=s.paths.length
 cum:t.cum=s.cum
 room:t.room=s.room
 mids:t.mids=s.mids
 fates:t.fates.length=s.fates.length
 sum:t.out.length+t.queue.length <= s.out.length+s.queue.length
theorem Rest.refl (s:Sender):Rest s s:=⟨rfl,rfl,rfl,rfl,rfl,rfl,rfl,rfl,Nat.le_refl _⟩
theorem Rest.trans {a b c:Sender} (h:Rest a b) (k:Rest b c):Rest a c:=⟨k.config.trans h.config,k.clock.trans h.clock,k.had.trans h.had,k.paths.trans h.paths,k.cum.trans h.cum,k.room.trans h.room,k.mids.trans h.mids,k.fates.trans h.fates,Nat.le_trans k.sum h.sum⟩
theorem zhg (s:Sender) (id:Nat):Rest s (giveS s id) /\ Sco.total (giveS s id).out=Sco.total s.out /\ (∀ m ∈ (giveS s id).queue,m ∈ s.queue) /\ (∀ x ∈ (giveS s id).out,x.id=id \/ ∃ y ∈ s.out,y.id=x.id):=by
 obtain ⟨o,n,h1,h2,h3⟩:=ymi s id s.queue
 have hs:=yfx id s.queue { s with fates:=s.fates.set id 3 }
 have hm:=yfy id s.queue { s with fates:=s.fates.set id 3 }
 rw [h1] at hs hm
 have hg:giveS s id=flights { (giveF s id o n) with queue:=s.queue.filter fun m=>decide (m.id ≠ id),sched:=if s.sched.hand=id then { s.sched with hand:=-1 } else s.sched,out:=o.map (Sco.give id),forward:=true }:=by
  show flights { (s.queue.foldl (end1 id) { s with fates:=s.fates.set id 3 }) with queue:=s.queue.filter fun m=>decide (m.id ≠ id),sched:=if s.sched.hand=id then { s.sched with hand:=-1 } else s.sched,out:=(s.queue.foldl (end1 id) { s with fates:=s.fates.set id 3 }).out.map (Sco.give id),forward:=true }=_
  rw [h1];rfl
 have hid:∀ y:Sent,(Sco.give id y).id=y.id:=fun y=>by unfold Sco.give;split <;> rfl
 rw [hg]
 refine ⟨⟨rfl,rfl,?_,?_,rfl,rfl,rfl,?_,?_⟩,?_,?_,?_⟩
 . show (if s.sched.hand=id then { s.sched with hand:=-1 } else s.sched:Sched).had=_;split <;> rfl
 . show (s.paths.mapIdx _).length=_;simp
 . show (s.fates.set id 3).length=_;simp
 . show (o.map (Sco.give id)).length+_ <= _
   rw [List.length_map];exact hs
 . show Sco.total (o.map (Sco.give id))=_
   rw [zhf,h3]
 . intro m h;exact (List.mem_filter.1 h).1
 . intro x h
   obtain ⟨y,hy,rfl⟩:=List.mem_map.1 h
   rcases hm y hy with h | h
   . exact .inr ⟨y,h,(hid y).symm⟩
   . exact .inl ((hid y).trans h)
theorem zvr {s:Sender} (h:GFit s) {id:Nat} (hid:id < s.fates.length):GFit (giveS s id):=by
 obtain ⟨r,h1,h2,h3⟩:=zhg s id
 obtain ⟨⟨f1,f2,f3,f4,f5,f6,f7⟩,g2,g3,g4⟩:=h
 have hs:=r.sum
 have hq:(giveS s id).queue.length <= s.queue.length:=by
  have:(giveS s id).queue=s.queue.filter fun m:Queued=>decide (m.id ≠ (id:Int)):=rfl
  rw [this];exact List.length_filter_le _ _
 refine ⟨⟨by omega,by rw [r.had];exact f2,⟨by omega,by rw [h1];exact f3.bytes⟩,by rw [r.paths];exact f4,by rw [r.mids];exact f5,by rw [r.fates];exact f6,fun m hm=>f7 m (h2 m hm)⟩,by omega,fun m hm=>by rw [r.fates];exact g3 m (h2 m hm),fun x hx=>?_⟩
 rw [r.fates]
 rcases h3 x hx with e | ⟨y,hy,e⟩
 . rw [e];omega
 . rw [<- e];exact g4 y hy
theorem zvs {s:Sender} (h:GFit s) {m:Queued} (hm:0 <= m.id /\ m.id < s.fates.length):GFit (expQ s m) /\ Rest s (expQ s m):=by
 unfold expQ
 split
 . obtain ⟨k,hk⟩:∃ k:Nat,m.id=k:=⟨m.id.toNat,by omega⟩
   rw [hk]
   exact ⟨zvr h (by omega),(zhg s k).1⟩
 . exact ⟨h,Rest.refl s⟩
theorem zvt {s:Sender} (h:GFit s) {x:Sent} (hm:0 <= x.id /\ x.id < s.fates.length):GFit (expX s x) /\ Rest s (expX s x):=by
 unfold expX
 split
 . obtain ⟨k,hk⟩:∃ k:Nat,x.id=k:=⟨x.id.toNat,by omega⟩
   rw [hk]
   exact ⟨zvr h (by omega),(zhg s k).1⟩
 . exact ⟨h,Rest.refl s⟩
theorem zzh (s:Sender)  (hs:GFit s):FunOK Tryz.prog 93 [.ptr 1000 0] (lk .free (pH3 s )) (.tup []) (lk .free (pD3 (expire s) )):=by
 have hs':=hs
 obtain ⟨⟨h1,h2,h3,h4,h5,h6,h7⟩,g2,g3,g4⟩:=hs
 generalize hE:expire s=E
 refine zal mixed Tryz.func93 (by decide) [1000,1001,1002,1003,1004,1005,1006,1007] zba ?_
 conv=>whnf
 (refine zae [] [(1000,1001)] [(0,11)] ?_;(conv=>whnf);refine dG (ysk s.queue (by omega)) ?_)
 refine ⟨{ x:(List Queued × List Queued) × Sender // s.queue=x.1.1++x.1.2 /\ x.1.1.foldl expQ s=x.2 /\ GFit x.2 /\ Rest s x.2 },
  fun | ⟨((A,B),t),_⟩=>hsP [1000,1001,1002,1003,1004,1005,1006,1007] 85 [(0,.ptr 1000 0),(11,.own 11),(12,i64 s.queue.length),(13,i64 A.length)] (snG3 t  900 901 902 903 904 905 1007 [(1001,.dead),(1002,.dead),(1003,.dead),(1004,.dead),(1005,.dead),(1006,.dead),(11,rowQ s.queue)]),fun x=>x.1.1.2.length,⟨(([],s.queue),s),rfl,rfl,hs',Rest.refl s⟩,?_,?_⟩
 . exact (hle_P (pK8 ((900,some 1001) :: (901,some 1002) :: (902,some 1003) :: (903,some 1004) :: (904,some 1005) :: (905,some 1006) :: [(11,some 11)])))
 rintro ⟨⟨⟨A,B⟩,t⟩,k1,k2,k3,k4⟩
 dsimp only at k1 k2 k3 k4
 refine zbh fun Q hQ=>?_
 conv=>whnf
 cases B with
 | cons m B =>
  have hz:=zat k1
  have hnext:(A++[m]).foldl expQ s=expQ t m:=by rw [List.foldl_append,k2];rfl
  have hm:=g3 m (zef k1)
  have ht:=k4.fates
  obtain ⟨id,hid⟩:∃ k:Nat,m.id=k:=⟨m.id.toNat,by omega⟩
  obtain ⟨kn,kr⟩:=zvs k3 (m:=m) (by omega)
  refine sT ?_
  refine sO ?_
  refine zah k1 rfl ?_;conv=>whnf
  (refine zae [] [(1000,1000),(1001,900),(1002,901),(1003,902),(1004,903),(1005,904),(1006,905),(1007,1007)] [] ?_;(conv=>whnf);refine dG (zzb t  m.came m.message.life) ?_)
  cases ho:old t.clock m.came m.message.life with
  | true =>
   rw [expQ,if_pos ho] at hnext kn kr
   have pg:=zqi t  id k3.fit (by omega) (by have:=k3.sum;omega)
   exact yy47
  | false =>
   exact yy96
 | nil =>
  have hz:=zaz k1
  rw [List.append_nil] at k1
  rw [<- k1] at k2
  have hE2:t.out.foldl expX t=E:=by rw [<- hE,expire,k2]
  have ko:=k3.sum
  refine sN ?_
  refine hQ _ _ ?_;conv=>whnf
  (refine zae [] [(1000,902)] [(0,34)] ?_;(conv=>whnf);refine dG (ysl t.out (by omega)) ?_)
  refine ⟨{ x:(List Sent × List Sent) × Sender // t.out=x.1.1++x.1.2 /\ x.1.1.foldl expX t=x.2 /\ GFit x.2 /\ Rest t x.2 },
   fun | ⟨((A,B),u),_⟩=>hsP [1000,1001,1002,1003,1004,1005,1006,1007] 85 [(0,.ptr 1000 0),(34,.own 34),(35,i64 t.out.length),(36,i64 A.length)] (snG3 u  900 901 902 903 904 905 1007 [(1001,.dead),(1002,.dead),(1003,.dead),(1004,.dead),(1005,.dead),(1006,.dead),(34,rowX t.out)]),fun x=>x.1.1.2.length,⟨(([],t.out),t),rfl,rfl,k3,Rest.refl t⟩,?_,?_⟩
  . exact (hle_P (pK8 (pJ6 [(34,some 34)])))
  have g4:=k3.xid
  clear hs' g3 g2 k4 k2 k1 hE hQ Q
  rintro ⟨⟨⟨A,B⟩,u⟩,k1,k2,k3,k4⟩
  dsimp only at k1 k2 k3 k4
  refine zbh fun Q hQ=>?_
  conv=>whnf
  cases B with
  | cons x B =>
   have hz:=zat k1
   have hnext:(A++[x]).foldl expX t=expX u x:=by rw [List.foldl_append,k2];rfl
   have hm:=g4 x (zef k1)
   have ht:=k4.fates
   obtain ⟨id,hid⟩:∃ k:Nat,x.id=k:=⟨x.id.toNat,by omega⟩
   obtain ⟨kn,kr⟩:=zvt k3 (x:=x) (by omega)
   have hidl:id < u.fates.length:=by omega
   have pg:=zqi u  id k3.fit hidl (by have:=k3.sum;omega)
   rw [<- hid] at pg
   obtain ⟨f,hf⟩:∃ f,u.fates[id]?=some f:=⟨_,List.getElem?_eq_getElem hidl⟩
   have hdue:dueX u x=(decide (f=1) && (decide (x.state ≠ 2) && (old u.clock x.came x.life || (decide (x.state=3) && (decide (x.tries > 0) && decide (x.times > x.tries)))))):=by
    unfold dueX
    rw [hid,Int.toNat_natCast,hf];rfl
   refine sT ?_
   refine sO ?_
   refine zah k1 rfl ?_;conv=>whnf
   refine sOm ?_
   refine zaj hf (by omega) ?_;conv=>whnf
   by_cases d1:f=1
   case neg =>
    refine zab ?_ ?_
    . simpa using d1
    conv=>whnf
    refine sD ?_
    repeat (refine hcut.go ?_;conv=>whnf)
    refine sF ?_
    refine hQ _ _ ?_;conv=>whnf
    rw [expX,if_neg (by rw [hdue];simp [d1])] at hnext
    exact yy26
   refine zac ?_ ?_
   . simpa using d1
   conv=>whnf
   by_cases d2:x.state=2
   case pos =>
    refine zab ?_ ?_
    . simpa using d2
    conv=>whnf
    refine sD ?_
    repeat (refine hcut.go ?_;conv=>whnf)
    refine sF ?_
    refine hQ _ _ ?_;conv=>whnf
    rw [expX,if_neg (by rw [hdue];simp [d1,d2])] at hnext
    exact yy26
   refine zac ?_ ?_
   . simpa using d2
   conv=>whnf
   (refine zae [] [(1000,1000),(1001,900),(1002,901),(1003,902),(1004,903),(1005,904),(1006,905),(1007,1007)] [] ?_;(conv=>whnf);refine dG (zzb u  x.came x.life) ?_)
   exact yy9
  | nil =>
   exact yy92
theorem zzi (s:Sender)  (hs:GFit s):FunOK Tryz.prog 93 [.ptr 1000 0] (lk .free (pH4 s )) (.tup []) (lk .free (pD4 (expire s) )):=by
 have hs':=hs
 obtain ⟨⟨h1,h2,h3,h4,h5,h6,h7⟩,g2,g3,g4⟩:=hs
 generalize hE:expire s=E
 refine zal mixed Tryz.func93 (by decide) [1000,1001,1002,1003,1004,1005,1006,1007] zba ?_
 conv=>whnf
 (refine zae [] [(1000,1001)] [(0,11)] ?_;(conv=>whnf);refine dG (ysk s.queue (by omega)) ?_)
 refine ⟨{ x:(List Queued × List Queued) × Sender // s.queue=x.1.1++x.1.2 /\ x.1.1.foldl expQ s=x.2 /\ GFit x.2 /\ Rest s x.2 },
  fun | ⟨((A,B),t),_⟩=>hsP [1000,1001,1002,1003,1004,1005,1006,1007] 85 [(0,.ptr 1000 0),(11,.own 11),(12,i64 s.queue.length),(13,i64 A.length)] (snG4 t  900 901 902 903 904 905 1007 [(1001,.dead),(1002,.dead),(1003,.dead),(1004,.dead),(1005,.dead),(1006,.dead),(11,rowQ s.queue)]),fun x=>x.1.1.2.length,⟨(([],s.queue),s),rfl,rfl,hs',Rest.refl s⟩,?_,?_⟩
 . exact (hle_P (pK8 ((900,some 1001) :: (901,some 1002) :: (902,some 1003) :: (903,some 1004) :: (904,some 1005) :: (905,some 1006) :: [(11,some 11)])))
 rintro ⟨⟨⟨A,B⟩,t⟩,k1,k2,k3,k4⟩
 dsimp only at k1 k2 k3 k4
 refine zbh fun Q hQ=>?_
 conv=>whnf
 cases B with
 | cons m B =>
  have hz:=zat k1
  have hnext:(A++[m]).foldl expQ s=expQ t m:=by rw [List.foldl_append,k2];rfl
  have hm:=g3 m (zef k1)
  have ht:=k4.fates
  obtain ⟨id,hid⟩:∃ k:Nat,m.id=k:=⟨m.id.toNat,by omega⟩
  obtain ⟨kn,kr⟩:=zvs k3 (m:=m) (by omega)
  refine sT ?_
  refine sO ?_
  refine zah k1 rfl ?_;conv=>whnf
  (refine zae [] [(1000,1000),(1001,900),(1002,901),(1003,902),(1004,903),(1005,904),(1006,905),(1007,1007)] [] ?_;(conv=>whnf);refine dG (zzc t  m.came m.message.life) ?_)
  cases ho:old t.clock m.came m.message.life with
  | true =>
   rw [expQ,if_pos ho] at hnext kn kr
   have pg:=zqj t  id k3.fit (by omega) (by have:=k3.sum;omega)
   exact yy47
  | false =>
   exact yy96
 | nil =>
  have hz:=zaz k1
  rw [List.append_nil] at k1
  rw [<- k1] at k2
  have hE2:t.out.foldl expX t=E:=by rw [<- hE,expire,k2]
  have ko:=k3.sum
  refine sN ?_
  refine hQ _ _ ?_;conv=>whnf
  (refine zae [] [(1000,902)] [(0,34)] ?_;(conv=>whnf);refine dG (ysl t.out (by omega)) ?_)
  refine ⟨{ x:(List Sent × List Sent) × Sender // t.out=x.1.1++x.1.2 /\ x.1.1.foldl expX t=x.2 /\ GFit x.2 /\ Rest t x.2 },
   fun | ⟨((A,B),u),_⟩=>hsP [1000,1001,1002,1003,1004,1005,1006,1007] 85 [(0,.ptr 1000 0),(34,.own 34),(35,i64 t.out.length),(36,i64 A.length)] (snG4 u  900 901 902 903 904 905 1007 [(1001,.dead),(1002,.dead),(1003,.dead),(1004,.dead),(1005,.dead),(1006,.dead),(34,rowX t.out)]),fun x=>x.1.1.2.length,⟨(([],t.out),t),rfl,rfl,k3,Rest.refl t⟩,?_,?_⟩
  . exact (hle_P (pK8 (pJ6 [(34,some 34)])))
  have g4:=k3.xid
  clear hs' g3 g2 k4 k2 k1 hE hQ Q
  rintro ⟨⟨⟨A,B⟩,u⟩,k1,k2,k3,k4⟩
  dsimp only at k1 k2 k3 k4
  refine zbh fun Q hQ=>?_
  conv=>whnf
  cases B with
  | cons x B =>
   have hz:=zat k1
   have hnext:(A++[x]).foldl expX t=expX u x:=by rw [List.foldl_append,k2];rfl
   have hm:=g4 x (zef k1)
   have ht:=k4.fates
   obtain ⟨id,hid⟩:∃ k:Nat,x.id=k:=⟨x.id.toNat,by omega⟩
   obtain ⟨kn,kr⟩:=zvt k3 (x:=x) (by omega)
   have hidl:id < u.fates.length:=by omega
   have pg:=zqj u  id k3.fit hidl (by have:=k3.sum;omega)
   rw [<- hid] at pg
   obtain ⟨f,hf⟩:∃ f,u.fates[id]?=some f:=⟨_,List.getElem?_eq_getElem hidl⟩
   have hdue:dueX u x=(decide (f=1) && (decide (x.state ≠ 2) && (old u.clock x.came x.life || (decide (x.state=3) && (decide (x.tries > 0) && decide (x.times > x.tries)))))):=by
    unfold dueX
    rw [hid,Int.toNat_natCast,hf];rfl
   refine sT ?_
   refine sO ?_
   refine zah k1 rfl ?_;conv=>whnf
   refine sOm ?_
   refine zaj hf (by omega) ?_;conv=>whnf
   by_cases d1:f=1
   case neg =>
    refine zab ?_ ?_
    . simpa using d1
    conv=>whnf
    refine sD ?_
    repeat (refine hcut.go ?_;conv=>whnf)
    refine sF ?_
    refine hQ _ _ ?_;conv=>whnf
    rw [expX,if_neg (by rw [hdue];simp [d1])] at hnext
    exact yy26
   refine zac ?_ ?_
   . simpa using d1
   conv=>whnf
   by_cases d2:x.state=2
   case pos =>
    refine zab ?_ ?_
    . simpa using d2
    conv=>whnf
    refine sD ?_
    repeat (refine hcut.go ?_;conv=>whnf)
    refine sF ?_
    refine hQ _ _ ?_;conv=>whnf
    rw [expX,if_neg (by rw [hdue];simp [d1,d2])] at hnext
    exact yy26
   refine zac ?_ ?_
   . simpa using d2
   conv=>whnf
   (refine zae [] [(1000,1000),(1001,900),(1002,901),(1003,902),(1004,903),(1005,904),(1006,905),(1007,1007)] [] ?_;(conv=>whnf);refine dG (zzc u  x.came x.life) ?_)
   exact yy9
  | nil =>
   exact yy92
end Snd
namespace Snd
open Ser
def nth0 (l:List (List Chunk)):List Chunk:=l[0]?.getD []
def nth1 (l:List (List Chunk)):List Chunk:=l[1]?.getD []
theorem zzj:∀ (l:List Path) (k:Nat),(k=0 -> 0 < l.length) -> ∃ c:Nat,Paths.zcr k l=c /\ (c=0 \/ c < k+l.length)
 | [],k,h=>⟨0,rfl,.inl rfl⟩
 | p :: r,k,_=>by
  rw [Paths.zcr]
  split
  . exact ⟨k,rfl,.inr (by simp)⟩
  . obtain ⟨c,h1,h2⟩:=zzj r (k+1) (by omega)
    exact ⟨c,h1,by rcases h2 with h2 | h2;exact .inl h2;exact .inr (by simp;omega)⟩
theorem zck {s:Sender} (h:0 < s.paths.length):Paths.zcr 0 s.paths=(choose s:Nat) /\ choose s < s.paths.length:=by
 obtain ⟨c,h1,h2⟩:=zzj s.paths 0 fun _=>h
 unfold choose
 rw [h1]
 exact ⟨by simp,by rcases h2 with h2 | h2 <;> simp <;> omega⟩
def fwdC (s:Sender):Chunk:=⟨3,tag (Sco.point s.out s.cum).1,0,0,0,false,false,[],[],0,(Sco.point s.out s.cum).2⟩
def fwdS (s:Sender) (k:Nat) (w:Path):Sender:={ s with forward:=false,paths:=s.paths.set k (alarm s w) }
theorem znu {s:Sender} {o:List (List Chunk)} (h:s.forward=false \/ (Sco.point s.out s.cum).1=s.cum):forward ⟨s,o⟩=⟨s,o⟩:=by rw [forward,if_pos h]
theorem zqk {s:Sender} {o:List (List Chunk)} {w:Path} {l:List Chunk} (h:¬ (s.forward=false \/ (Sco.point s.out s.cum).1=s.cum)) (ha:s.paths[choose s]?=some w) (hl:o[choose s]?=some l) :
 forward ⟨s,o⟩=⟨fwdS s (choose s) w,o.set (choose s) (l++[fwdC s])⟩:=by
 rw [forward,if_neg h]
 simp only [setAt,ha,hl,fwdS,fwdC]
theorem zln {s:Sender} {w:Path} (h:¬ w.alarm=0):alarm s w=w:=by rw [alarm,if_neg h]
theorem ziv {s:Sender} {w:Path} (h:w.alarm=0):alarm s w={ w with alarm:=W (s.clock+w.wait) }:=by rw [alarm,if_pos h]
theorem zvu (s:Sender) (h3:s.out.length < 2 ^ 38) (h4:s.paths.length=1) :
 FunOK Tryz.prog 94 [.ptr 1000 0] (lk .free (pH3 s)) (.tup [])
  (lk .free (snG1 (forward ⟨s,[[]]⟩).s (nth0 (forward ⟨s,[[]]⟩).out) 1001 1002 1003 1004 1005 1006 1007 0 [])):=by
 obtain ⟨hch,hch2⟩:=zck (s:=s) (by omega)
 have hc0:choose s=0:=by omega
 have pc:=Paths.zdd s.paths (by omega)
 rw [hch,hc0] at pc
 obtain ⟨w,ha⟩:∃ w,s.paths[0]?=some w:=⟨_,List.getElem?_eq_getElem (by omega)⟩
 refine zal mixed Tryz.func94 (by decide) [1000,1001,1002,1003,1004,1005,1006,1007] zba ?_
 conv=>whnf
 (refine zae [] [(1000,1003)] [(0,17)] ?_;(conv=>whnf);refine dG (Sco.zdm s.out s.cum h3) ?_)
 refine sD ?_
 by_cases c1:s.forward=false
 . rw [znu (.inl c1)]
   refine zac ?_ ?_
   . simp [c1]
   conv=>whnf
   repeat (refine hcut.go ?_;conv=>whnf)
   (exact zbn (pK8 [(0,none)]))
 by_cases c2:(Sco.point s.out s.cum).1=s.cum
 . rw [znu (.inr c2)]
   refine zab ?_ ?_
   . simp [c1]
   conv=>whnf
   refine zac ?_ ?_
   . simp [c2]
   conv=>whnf
   repeat (refine hcut.go ?_;conv=>whnf)
   (exact zbn (pK8 [(0,none)]))
 have hfy:=zqk (o:=[[]]) (l:=[]) (w:=w) (by rintro (h | h);exact c1 h;exact c2 h) (by rw [hc0];exact ha) (by rw [hc0];rfl)
 rw [hfy,hc0]
 refine zab ?_ ?_
 . simp [c1]
 conv=>whnf
 refine zab ?_ ?_
 . simp [c2]
 conv=>whnf
 repeat (refine hcut.go ?_;conv=>whnf)
 (refine cL ?_;refine dL pc ?_)
 refine ⟨0,rfl,by decide,?_⟩;conv=>whnf
 (refine cL ?_;refine dL (zcg _) ?_)
 refine zaa (c:=(1:Nat) * 128 <= 140737488355328) (by decide) ?_;conv=>whnf
 refine ⟨0,rfl,by decide,?_⟩;conv=>whnf
 refine sD ?_
 refine sOm ?_
 refine zaj ha rfl ?_;conv=>whnf
 by_cases c3:w.alarm=0
 case pos =>
  refine zac ?_ ?_
  . simpa using c3
  conv=>whnf
  repeat (refine hcut.go ?_;conv=>whnf)
  refine zaj ha rfl ?_;conv=>whnf
  refine sR ?_
  refine zaj ha rfl ?_;conv=>whnf
  refine sD ?_
  (exact zby (pK8 [(0,some 62)]) (by repeat' (first | exact z0 | refine z1 ?_ | refine ⟨?_,?_⟩ | ((exact (zdn (f:=Path.row) (y:={ w with alarm:=W (s.clock+w.wait) }) rfl).trans (zan (by rw [show (fwdS s 0 w).paths=s.paths.set 0 (alarm s w) from rfl,ziv c3];rfl)))) | exact z2)))
 case neg =>
  refine zab ?_ ?_
  . simpa using c3
  conv=>whnf
  repeat (refine hcut.go ?_;conv=>whnf)
  rw [show (fwdS s 0 w)={ s with forward:=false } by { unfold fwdS;rw [zln c3,zhv ha] }]
  (exact zbn (pK8 [(0,some 62)]))
theorem zvv (s:Sender) (h3:s.out.length < 2 ^ 38) (h4:s.paths.length=2) :
 FunOK Tryz.prog 94 [.ptr 1000 0] (lk .free (pH4 s)) (.tup [])
  (lk .free (snG2 (forward ⟨s,[[],[]]⟩).s (nth0 (forward ⟨s,[[],[]]⟩).out) (nth1 (forward ⟨s,[[],[]]⟩).out) 1001 1002 1003 1004 1005 1006 1007 0 1 [])):=by
 obtain ⟨hch,hch2⟩:=zck (s:=s) (by omega)
 have hc01:choose s=0 \/ choose s=1:=by omega
 rcases hc01 with hc0 | hc0
 case inl =>
  have pc:=Paths.zdd s.paths (by omega)
  rw [hch,hc0] at pc
  obtain ⟨w,ha⟩:∃ w,s.paths[0]?=some w:=⟨_,List.getElem?_eq_getElem (by omega)⟩
  refine zal mixed Tryz.func94 (by decide) [1000,1001,1002,1003,1004,1005,1006,1007] zba ?_
  conv=>whnf
  (refine zae [] [(1000,1003)] [(0,17)] ?_;(conv=>whnf);refine dG (Sco.zdm s.out s.cum h3) ?_)
  refine sD ?_
  by_cases c1:s.forward=false
  . rw [znu (.inl c1)]
    refine zac ?_ ?_
    . simp [c1]
    exact yy89
  by_cases c2:(Sco.point s.out s.cum).1=s.cum
  . rw [znu (.inr c2)]
    refine zab ?_ ?_
    . simp [c1]
    conv=>whnf
    refine zac ?_ ?_
    . simp [c2]
    exact yy89
  have hfy:=zqk (o:=[[],[]]) (l:=[]) (w:=w) (by rintro (h | h);exact c1 h;exact c2 h) (by rw [hc0];exact ha) (by rw [hc0];rfl)
  rw [hfy,hc0]
  refine zab ?_ ?_
  . simp [c1]
  conv=>whnf
  refine zab ?_ ?_
  . simp [c2]
  conv=>whnf
  repeat (refine hcut.go ?_;conv=>whnf)
  (refine cL ?_;refine dL pc ?_)
  refine ⟨0,rfl,by decide,?_⟩;conv=>whnf
  (refine cL ?_;refine dL (zcg _) ?_)
  refine zaa (c:=(1:Nat) * 128 <= 140737488355328) (by decide) ?_;conv=>whnf
  refine ⟨0,rfl,by decide,?_⟩;conv=>whnf
  refine sD ?_
  refine sOm ?_
  refine zaj ha rfl ?_;conv=>whnf
  by_cases c3:w.alarm=0
  case pos =>
   refine zac ?_ ?_
   . simpa using c3
   conv=>whnf
   repeat (refine hcut.go ?_;conv=>whnf)
   refine zaj ha rfl ?_;conv=>whnf
   refine sR ?_
   refine zaj ha rfl ?_;conv=>whnf
   refine sD ?_
   (exact zby (pK8 [(0,some 62),(1,none)]) (by repeat' (first | exact z0 | refine z1 ?_ | refine ⟨?_,?_⟩ | ((exact (zdn (f:=Path.row) (y:={ w with alarm:=W (s.clock+w.wait) }) rfl).trans (zan (by rw [show (fwdS s 0 w).paths=s.paths.set 0 (alarm s w) from rfl,ziv c3];rfl)))) | exact z2)))
  case neg =>
   refine zab ?_ ?_
   . simpa using c3
   conv=>whnf
   repeat (refine hcut.go ?_;conv=>whnf)
   rw [show (fwdS s 0 w)={ s with forward:=false } by { unfold fwdS;rw [zln c3,zhv ha] }]
   (exact zbn (pK8 [(0,some 62),(1,none)]))
 case inr =>
  have pc:=Paths.zdd s.paths (by omega)
  rw [hch,hc0] at pc
  obtain ⟨w,ha⟩:∃ w,s.paths[1]?=some w:=⟨_,List.getElem?_eq_getElem (by omega)⟩
  refine zal mixed Tryz.func94 (by decide) [1000,1001,1002,1003,1004,1005,1006,1007] zba ?_
  conv=>whnf
  (refine zae [] [(1000,1003)] [(0,17)] ?_;(conv=>whnf);refine dG (Sco.zdm s.out s.cum h3) ?_)
  refine sD ?_
  by_cases c1:s.forward=false
  . rw [znu (.inl c1)]
    refine zac ?_ ?_
    . simp [c1]
    exact yy89
  by_cases c2:(Sco.point s.out s.cum).1=s.cum
  . rw [znu (.inr c2)]
    refine zab ?_ ?_
    . simp [c1]
    conv=>whnf
    refine zac ?_ ?_
    . simp [c2]
    exact yy89
  have hfy:=zqk (o:=[[],[]]) (l:=[]) (w:=w) (by rintro (h | h);exact c1 h;exact c2 h) (by rw [hc0];exact ha) (by rw [hc0];rfl)
  rw [hfy,hc0]
  refine zab ?_ ?_
  . simp [c1]
  conv=>whnf
  refine zab ?_ ?_
  . simp [c2]
  conv=>whnf
  repeat (refine hcut.go ?_;conv=>whnf)
  (refine cL ?_;refine dL pc ?_)
  refine ⟨1,rfl,by decide,?_⟩;conv=>whnf
  (refine cL ?_;refine dL (zcg _) ?_)
  refine zaa (c:=(1:Nat) * 128 <= 140737488355328) (by decide) ?_;conv=>whnf
  refine ⟨1,rfl,by decide,?_⟩;conv=>whnf
  refine sD ?_
  refine sOm ?_
  refine zaj ha rfl ?_;conv=>whnf
  by_cases c3:w.alarm=0
  case pos =>
   refine zac ?_ ?_
   . simpa using c3
   conv=>whnf
   repeat (refine hcut.go ?_;conv=>whnf)
   refine zaj ha rfl ?_;conv=>whnf
   refine sR ?_
   refine zaj ha rfl ?_;conv=>whnf
   refine sD ?_
   (exact zby (pK8 [(1,some 62),(0,none)]) (by repeat' (first | exact z0 | refine z1 ?_ | refine ⟨?_,?_⟩ | ((exact (zdn (f:=Path.row) (y:={ w with alarm:=W (s.clock+w.wait) }) rfl).trans (zan (by rw [show (fwdS s 1 w).paths=s.paths.set 1 (alarm s w) from rfl,ziv c3];rfl)))) | exact z2)))
  case neg =>
   refine zab ?_ ?_
   . simpa using c3
   conv=>whnf
   repeat (refine hcut.go ?_;conv=>whnf)
   rw [show (fwdS s 1 w)={ s with forward:=false } by { unfold fwdS;rw [zln c3,zhv ha] }]
   (exact zbn (pK8 [(1,some 62),(0,none)]))
end Snd
namespace Snd
open Ser
theorem zfr {α:Type} (f:α -> Nat -> α) (p:α) (i:Nat):(List.range (i+1)).foldl f p=f ((List.range i).foldl f p) i:=by
 rw [List.range_succ,List.foldl_append];rfl
theorem zlo {s:Sender} {o:List (List Chunk)} {i c:Nat} {x:Sent} {w:Path} (hx:s.out[i]?=some x) (hw:s.paths[c]?=some w) (h:¬ (x.state=3 /\ w.flight < w.window)):zcd c ⟨s,o⟩ i=⟨s,o⟩:=by
 simp only [zcd,hx,opened,hw]
 rw [if_neg (by simpa using h)]
theorem ziw {s:Sender} {o:List (List Chunk)} {i c:Nat} {x:Sent} {w:Path} {l:List Chunk} (hx:s.out[i]?=some x) (hw:s.paths[c]?=some w) (hl:o[c]?=some l) (h:x.state=3 /\ w.flight < w.window) :
 zcd c ⟨s,o⟩ i=⟨flyS s i c x w,o.set c (l++[x.chunk])⟩:=by
 simp only [zcd,hx,opened,hw]
 rw [if_pos (by simpa using h),ztc hx hw hl]
theorem ycv (s:Sender) (a:List Chunk) (h3:s.out.length < 2 ^ 28) (h4:s.paths.length=1) (ha:a.length < 2 ^ 28) :
 FunOK Tryz.prog 95 [.ptr 1000 0] (lk .free (pH1 s a)) (.tup [])
  (lk .free (snG1 (again ⟨s,[a]⟩).s (nth0 (again ⟨s,[a]⟩).out) 1001 1002 1003 1004 1005 1006 1007 0 [(1008,.dead)])):=by
 obtain ⟨hch,hch2⟩:=zck (s:=s) (by omega)
 have hc0:choose s=0:=by omega
 have pc:=Paths.zdd s.paths (by omega)
 rw [hch,hc0] at pc
 have hag:again ⟨s,[a]⟩=(List.range s.out.length).foldl (zcd 0) ⟨s,[a]⟩:=by rw [again,hc0]
 generalize again ⟨s,[a]⟩=G at hag ⊢
 refine zal mixed Tryz.func95 (by decide) [1000,1001,1002,1003,1004,1005,1006,1007,1008] zba ?_
 conv=>whnf
 (refine cL ?_;refine dL pc ?_)
 refine ⟨{ x:Nat × Sender × List Chunk // x.1 <= s.out.length /\ (List.range x.1).foldl (zcd 0) ⟨s,[a]⟩=⟨x.2.1,[x.2.2]⟩ /\ x.2.1.out.length=s.out.length /\ x.2.1.paths.length=s.paths.length /\ x.2.2.length <= a.length+x.1 },
  fun | ⟨(i,t,a'),_⟩=>hsP [1000,1001,1002,1003,1004,1005,1006,1007,1008] 51 [(0,.ptr 1000 0),(2,i64 0),(15,i64 s.out.length),(16,i64 i)] (snG1 t a' 1001 1002 1003 1004 1005 1006 1007 900 [(1008,.dead)]),fun x=>s.out.length - x.1.1,⟨(0,s,a),by omega,rfl,rfl,rfl,by dsimp only;omega⟩,?_,?_⟩
 . exact (hle_Y (pK9 [(900,some 1008)]) (by repeat' (first | exact z0 | refine z1 ?_ | refine ⟨?_,?_⟩ | ((exact zaw om)) | exact z2)))
 rintro ⟨⟨i,t,a'⟩,k1,k2,k3,k4,k5⟩
 dsimp only at k1 k2 k3 k4 k5
 conv=>whnf
 by_cases hi:i < s.out.length
 case pos =>
  obtain ⟨x,hx⟩:∃ x,t.out[i]?=some x:=⟨_,List.getElem?_eq_getElem (by omega)⟩
  obtain ⟨w,hw⟩:∃ w,t.paths[0]?=some w:=⟨_,List.getElem?_eq_getElem (by omega)⟩
  have hst:=zfr (zcd 0) ⟨s,[a]⟩ i
  rw [k2] at hst
  have hno:=zlo (o:=[a']) (c:=0) hx hw
  have hyes:=ziw (o:=[a']) (c:=0) (l:=a') hx hw rfl
  refine sT ?_
  refine sO ?_
  refine zaj hx rfl ?_;conv=>whnf
  by_cases d1:x.state=3
  case neg =>
   refine zab ?_ ?_
   . simpa using d1
   conv=>whnf
   repeat (refine hcut.go ?_;conv=>whnf)
   refine sF ?_
   exact ⟨⟨(i+1,t,a'),by dsimp only;omega,by rw [hst,hno fun h=>d1 h.1],k3,k4,by dsimp only;omega⟩,(hle_Y (pK9 [(900,some 900)]) (by repeat' (first | exact z0 | refine z1 ?_ | refine ⟨?_,?_⟩ | ((exact zaw om)) | exact z2))),by dsimp only;omega⟩
  refine zac ?_ ?_
  . simpa using d1
  conv=>whnf
  refine sOm ?_
  refine zaj hw rfl ?_;conv=>whnf
  (refine cL ?_;refine dL (Paths.zhb w) ?_)
  by_cases d2:w.flight < w.window
  case neg =>
   refine zab ?_ ?_
   . simpa using d2
   conv=>whnf
   repeat (refine hcut.go ?_;conv=>whnf)
   refine sF ?_
   exact ⟨⟨(i+1,t,a'),by dsimp only;omega,by rw [hst,hno fun h=>d2 h.2],k3,k4,by dsimp only;omega⟩,(hle_Y (pK9 [(900,some 900)]) (by repeat' (first | exact z0 | refine z1 ?_ | refine ⟨?_,?_⟩ | ((exact zaw om)) | exact z2))),by dsimp only;omega⟩
  refine zac ?_ ?_
  . simpa using d2
  conv=>whnf
  repeat (refine hcut.go ?_;conv=>whnf)
  refine sOm ?_
  (refine zae [] [(1000,1000),(1001,1001),(1002,1002),(1003,1003),(1004,1004),(1005,1005),(1006,1006),(1007,1007),(1008,900)] [(0,920)] ?_;(conv=>whnf);refine dG (zkm t a' i x w hx hw (by omega)) ?_)
  refine sF ?_
  exact ⟨⟨(i+1,flyS t i 0 x w,a'++[x.chunk]),by dsimp only;omega,by rw [hst,hyes ⟨d1,d2⟩];rfl,by show (t.out.set i _).length=_;rw [List.length_set];exact k3,by show (t.paths.set 0 _).length=_;rw [List.length_set];exact k4,by simp;omega⟩,(hle_Y (pK9 [(900,some 920)]) (by repeat' (first | exact z0 | refine z1 ?_ | refine ⟨?_,?_⟩ | ((exact zaw om)) | exact z2))),by dsimp only;omega⟩
 case neg =>
  have hin:i=s.out.length:=by omega
  subst hin
  refine sN ?_
  rw [k2] at hag
  subst hag
  (exact zbn (pK9 [(0,some 900)]))
theorem ycw (s:Sender) (a b:List Chunk) (h3:s.out.length < 2 ^ 28) (h4:s.paths.length=2) (ha:a.length+b.length < 2 ^ 28) :
 FunOK Tryz.prog 95 [.ptr 1000 0] (lk .free (pH2 s a b)) (.tup [])
  (lk .free (snG2 (again ⟨s,[a,b]⟩).s (nth0 (again ⟨s,[a,b]⟩).out) (nth1 (again ⟨s,[a,b]⟩).out) 1001 1002 1003 1004 1005 1006 1007 0 1 [(1008,.dead),(1009,.dead)])):=by
 obtain ⟨hch,hch2⟩:=zck (s:=s) (by omega)
 have hc01:choose s=0 \/ choose s=1:=by omega
 rcases hc01 with hc0 | hc0
 case inl =>
  have pc:=Paths.zdd s.paths (by omega)
  rw [hch,hc0] at pc
  have hag:again ⟨s,[a,b]⟩=(List.range s.out.length).foldl (zcd 0) ⟨s,[a,b]⟩:=by rw [again,hc0]
  generalize again ⟨s,[a,b]⟩=G at hag ⊢
  refine zal mixed Tryz.func95 (by decide) [1000,1001,1002,1003,1004,1005,1006,1007,1008,1009] zba ?_
  conv=>whnf
  (refine cL ?_;refine dL pc ?_)
  refine ⟨{ x:Nat × Sender × List Chunk × List Chunk // x.1 <= s.out.length /\ (List.range x.1).foldl (zcd 0) ⟨s,[a,b]⟩=⟨x.2.1,[x.2.2.1,x.2.2.2]⟩ /\ x.2.1.out.length=s.out.length /\ x.2.1.paths.length=s.paths.length /\ x.2.2.1.length+x.2.2.2.length <= a.length+b.length+x.1 },
   fun | ⟨(i,t,a',b'),_⟩=>hsP [1000,1001,1002,1003,1004,1005,1006,1007,1008,1009] 51 [(0,.ptr 1000 0),(2,i64 0),(15,i64 s.out.length),(16,i64 i)] (snG2 t a' b' 1001 1002 1003 1004 1005 1006 1007 900 901 [(1008,.dead),(1009,.dead)]),fun x=>s.out.length - x.1.1,⟨(0,s,a,b),by omega,rfl,rfl,rfl,by dsimp only;omega⟩,?_,?_⟩
  . exact (hle_Y (pK10 [(900,some 1008),(901,some 1009)]) (by repeat' (first | exact z0 | refine z1 ?_ | refine ⟨?_,?_⟩ | ((exact zaw om)) | exact z2)))
  rintro ⟨⟨i,t,a',b'⟩,k1,k2,k3,k4,k5⟩
  dsimp only at k1 k2 k3 k4 k5
  conv=>whnf
  by_cases hi:i < s.out.length
  case pos =>
   obtain ⟨x,hx⟩:∃ x,t.out[i]?=some x:=⟨_,List.getElem?_eq_getElem (by omega)⟩
   obtain ⟨w,hw⟩:∃ w,t.paths[0]?=some w:=⟨_,List.getElem?_eq_getElem (by omega)⟩
   have hst:=zfr (zcd 0) ⟨s,[a,b]⟩ i
   rw [k2] at hst
   have hno:=zlo (o:=[a',b']) (c:=0) hx hw
   have hyes:=ziw (o:=[a',b']) (c:=0) (l:=a') hx hw rfl
   refine sT ?_
   refine sO ?_
   refine zaj hx rfl ?_;conv=>whnf
   by_cases d1:x.state=3
   case neg =>
    exact yy62
   refine zac ?_ ?_
   . simpa using d1
   conv=>whnf
   refine sOm ?_
   refine zaj hw rfl ?_;conv=>whnf
   (refine cL ?_;refine dL (Paths.zhb w) ?_)
   by_cases d2:w.flight < w.window
   case neg =>
    exact yy63
   refine zac ?_ ?_
   . simpa using d2
   conv=>whnf
   repeat (refine hcut.go ?_;conv=>whnf)
   refine sOm ?_
   (refine zae [] [(1000,1000),(1001,1001),(1002,1002),(1003,1003),(1004,1004),(1005,1005),(1006,1006),(1007,1007),(1008,900),(1009,901)] [(0,920)] ?_;(conv=>whnf);refine dG (zkn t a' b' i x w hx hw (by omega)) ?_)
   refine sF ?_
   exact ⟨⟨(i+1,flyS t i 0 x w,a'++[x.chunk],b'),by dsimp only;omega,by rw [hst,hyes ⟨d1,d2⟩];rfl,by show (t.out.set i _).length=_;rw [List.length_set];exact k3,by show (t.paths.set 0 _).length=_;rw [List.length_set];exact k4,by simp;omega⟩,(hle_Y (pK10 ((900,some 920) :: [(901,some 901)])) (by repeat' (first | exact z0 | refine z1 ?_ | refine ⟨?_,?_⟩ | ((exact zaw om)) | exact z2))),by dsimp only;omega⟩
  case neg =>
   exact yy133
 case inr =>
  have pc:=Paths.zdd s.paths (by omega)
  rw [hch,hc0] at pc
  have hag:again ⟨s,[a,b]⟩=(List.range s.out.length).foldl (zcd 1) ⟨s,[a,b]⟩:=by rw [again,hc0]
  generalize again ⟨s,[a,b]⟩=G at hag ⊢
  refine zal mixed Tryz.func95 (by decide) [1000,1001,1002,1003,1004,1005,1006,1007,1008,1009] zba ?_
  conv=>whnf
  (refine cL ?_;refine dL pc ?_)
  refine ⟨{ x:Nat × Sender × List Chunk × List Chunk // x.1 <= s.out.length /\ (List.range x.1).foldl (zcd 1) ⟨s,[a,b]⟩=⟨x.2.1,[x.2.2.1,x.2.2.2]⟩ /\ x.2.1.out.length=s.out.length /\ x.2.1.paths.length=s.paths.length /\ x.2.2.1.length+x.2.2.2.length <= a.length+b.length+x.1 },
   fun | ⟨(i,t,a',b'),_⟩=>hsP [1000,1001,1002,1003,1004,1005,1006,1007,1008,1009] 51 [(0,.ptr 1000 0),(2,i64 1),(15,i64 s.out.length),(16,i64 i)] (snG2 t a' b' 1001 1002 1003 1004 1005 1006 1007 900 901 [(1008,.dead),(1009,.dead)]),fun x=>s.out.length - x.1.1,⟨(0,s,a,b),by omega,rfl,rfl,rfl,by dsimp only;omega⟩,?_,?_⟩
  . exact (hle_Y (pK10 [(900,some 1008),(901,some 1009)]) (by repeat' (first | exact z0 | refine z1 ?_ | refine ⟨?_,?_⟩ | ((exact zaw om)) | exact z2)))
  rintro ⟨⟨i,t,a',b'⟩,k1,k2,k3,k4,k5⟩
  dsimp only at k1 k2 k3 k4 k5
  conv=>whnf
  by_cases hi:i < s.out.length
  case pos =>
   obtain ⟨x,hx⟩:∃ x,t.out[i]?=some x:=⟨_,List.getElem?_eq_getElem (by omega)⟩
   obtain ⟨w,hw⟩:∃ w,t.paths[1]?=some w:=⟨_,List.getElem?_eq_getElem (by omega)⟩
   have hst:=zfr (zcd 1) ⟨s,[a,b]⟩ i
   rw [k2] at hst
   have hno:=zlo (o:=[a',b']) (c:=1) hx hw
   have hyes:=ziw (o:=[a',b']) (c:=1) (l:=b') hx hw rfl
   refine sT ?_
   refine sO ?_
   refine zaj hx rfl ?_;conv=>whnf
   by_cases d1:x.state=3
   case neg =>
    exact yy62
   refine zac ?_ ?_
   . simpa using d1
   conv=>whnf
   refine sOm ?_
   refine zaj hw rfl ?_;conv=>whnf
   (refine cL ?_;refine dL (Paths.zhb w) ?_)
   by_cases d2:w.flight < w.window
   case neg =>
    exact yy63
   refine zac ?_ ?_
   . simpa using d2
   conv=>whnf
   repeat (refine hcut.go ?_;conv=>whnf)
   refine sOm ?_
   (refine zae [] [(1000,1000),(1001,1001),(1002,1002),(1003,1003),(1004,1004),(1005,1005),(1006,1006),(1007,1007),(1008,900),(1009,901)] [(0,920)] ?_;(conv=>whnf);refine dG (zko t a' b' i x w hx hw (by omega)) ?_)
   refine sF ?_
   exact ⟨⟨(i+1,flyS t i 1 x w,a',b'++[x.chunk]),by dsimp only;omega,by rw [hst,hyes ⟨d1,d2⟩];rfl,by show (t.out.set i _).length=_;rw [List.length_set];exact k3,by show (t.paths.set 1 _).length=_;rw [List.length_set];exact k4,by simp;omega⟩,(hle_Y (pK10 ((900,some 900) :: [(901,some 920)])) (by repeat' (first | exact z0 | refine z1 ?_ | refine ⟨?_,?_⟩ | ((exact zaw om)) | exact z2))),by dsimp only;omega⟩
  case neg =>
   exact yy133
end Snd
theorem zvw {rows ys:List (List PV)} {z:List PV} {i j a k m:Nat} (hij:i <= j) (hj:j <= rows.length) (ha:a=i) (hy:ys=(rows.drop j).take (rows.length - j)) (hk:k=i+ys.length) (hm:m=j - i) (_:i+ys.length+(j - i)=rows.length) :
 splice (splice rows a ys) k (List.replicate m z)=rows.take i++rows.drop j++List.replicate (j - i) z:=by
 subst ha hm
 have hy2:ys=rows.drop j:=by rw [hy,List.take_of_length_le (by simp)]
 have h1:ys.length=rows.length - j:=by rw [hy2];simp
 have h2:(rows.take a).length=a:=by simp;omega
 have h3:splice rows a ys=(rows.take a++ys)++rows.drop k:=by rw [splice,hk]
 have h4:(rows.take a++ys).length=k:=by simp;omega
 rw [splice,h3,List.take_left' h4,List.drop_eq_nil_of_le (by simp only [List.length_append,List.length_drop,List.length_replicate,h2];omega),List.append_nil,hy2]
theorem yqu {rows ys zs:List (List PV)} {a b k:Nat} (hk:k < rows.length) (ha:a=k+1) (hy:ys=rows.drop k) (hb:b=k) (hz:zs.length=1):splice (splice rows a ys) b zs=rows.take k++zs++rows.drop k:=by
 subst ha hy hb
 have h1:splice rows (b+1) (rows.drop b)=rows.take (b+1)++rows.drop b:=by
  rw [splice,List.drop_eq_nil_of_le (i:=b+1+(rows.drop b).length) (by simp;omega),List.append_nil]
 have h2:(rows.take (b+1)).length=b+1:=by simp;omega
 rw [splice,h1,hz,List.drop_left' h2,List.take_append_of_le_length (by omega),List.take_take,Nat.min_eq_left (by omega)]
theorem yqv {rows ys zs:List (List PV)} {z:List PV} {a b k m:Nat} (hk:k < rows.length) (hm:m=rows.length+1 - k) (ha:a=k) (hz:zs.length=1) (hb:b=k+1) (hy:ys=rows.drop k) :
 splice (splice (rows.take k++List.replicate m z) a zs) b ys=rows.take k++zs++rows.drop k:=by
 subst hm ha hb hy
 have h1:(rows.take a).length=a:=by simp;omega
 have h2:splice (rows.take a++List.replicate (rows.length+1 - a) z) a zs=(rows.take a++zs)++(rows.take a++List.replicate (rows.length+1 - a) z).drop (a+1):=by
  rw [splice,List.take_left' h1,hz]
 have h3:(rows.take a++zs).length=a+1:=by simp;omega
 rw [splice,h2,List.take_left' h3,List.drop_eq_nil_of_le (i:=a+1+_) (by simp;omega),List.append_nil]
theorem row1 {α:Type} {f:α -> List PV} {v:α} {m:Nat} {l r:List α} (h:0 < m):(l.map f++[f v].take m)++r.map f=(l++v :: r).map f:=by
 rw [List.take_of_length_le (by simp;omega),List.map_append,List.map_cons,List.append_assoc];rfl
theorem row1k {α:Type} {f:α -> List PV} {v:α} {m k:Nat} {l:List α} (h:0 < m):(l.map f).take k++[f v].take m++(l.map f).drop k=(l.take k++v :: l.drop k).map f:=by
 rw [<- List.map_take,<- List.map_drop];exact row1 h
def zql (cmp:Span -> Int) (l:List Span) (K:Nat):Bool:=match l[K]? with | some s=>cmp s == 0 | none=>false
theorem ytz {g:FuncId} {cmp:Span -> Int} {n:Int} (hg:∀ m:Span,FunOK Tryz.prog g [m.hv,i64 n] zad (i64 (cmp m)) zad) (l:List Span) (K:Nat) (hK:K <= l.length) (hm:∀ (i:Nat) (h:i < l.length),cmp l[i] < 0 ↔ i < K) (hb:l.length < 2 ^ 40) :
 FunOK Tryz.prog 195 [Ser.spans l,i64 n,.clo g []] zad (.tup [i64 K,hbool (zql cmp l K)]) zad:=by
 refine zai mixed Tryz.func195 (by decide) ?_
 conv=>whnf
 refine ⟨{ x:Nat × Nat // x.1 <= K /\ K <= x.2 /\ x.2 <= l.length },fun | ⟨(i,j),_⟩=>hs 49 [(0,Ser.spans l),(1,i64 n),(2,.clo g []),(8,i64 l.length),(9,i64 i),(10,i64 j)] [],fun x=>x.1.2 - x.1.1,⟨(0,l.length),by simp,hK,Nat.le_refl _⟩,?_,?_⟩
 . exact (hle_Q [])
 rintro ⟨⟨i,j⟩,h1,h2,h3⟩
 dsimp only at h1 h2 h3
 conv=>whnf
 by_cases c:i < j
 . have hlt:(i+j) / 2 < l.length:=by omega
   refine sT ?_
   refine sF ?_
   refine zbc (zpw (by omega) (by omega)) ?_;conv=>whnf
   refine zaa (by decide) ?_;conv=>whnf
   refine zbc (z':=(((i+j) / 2:Nat):Int)) ?_ ?_
   . show W (((i:Int)+j) / 2)=_
     rw [W_fit (by omega) (by omega)];omega
   conv=>whnf
   refine zbe ((i+j) / 2) rfl hlt ?_;conv=>whnf
   (refine cZ ?_;refine dL (hg l[(i+j) / 2]) ?_)
   by_cases c2:cmp l[(i+j) / 2] < 0
   . have hk:=(hm _ hlt).1 c2
     refine sT ?_
     refine sF ?_
     exact ⟨⟨((i+j) / 2+1,j),hk,h2,h3⟩,(hle_Q []),by dsimp only;omega⟩
   . have hk:¬ (i+j) / 2 < K:=fun h=>c2 ((hm _ hlt).2 h)
     refine sN ?_
     exact ⟨⟨(i,(i+j) / 2),h1,by dsimp only;omega,by dsimp only;omega⟩,(hle_Q []),by dsimp only;omega⟩
 . have hi:i=K:=by omega
   subst hi
   refine sN ?_
   by_cases c2:i < l.length
   . refine sT ?_
     refine zbe i rfl c2 ?_;conv=>whnf
     (refine cZ ?_;refine dL (hg l[i]) ?_)
     rw [zql,List.getElem?_eq_getElem c2]
   . refine sN ?_
     rw [zql,List.getElem?_eq_none (by omega)]
theorem yiq (l:List Span) (i j:Nat) (hij:i <= j) (hj:j <= l.length) (hb:l.length < 2 ^ 40) :
 FunOK Tryz.prog 198 [.osl 1000 2 0 (l.map Span.row).length,i64 i,i64 j] (lk .free [(1000,.live (.row 199 2 (l.map Span.row)))])
  (.osl 1000 2 0 (l.length - (j - i))) (lk .free [(1000,.live (.row 199 2 ((l.take i++l.drop j).map Span.row++List.replicate (j - i) [pi 0,pi 0])))]):=by
 refine zal mixed Tryz.func198 (by decide) [1000] zba ?_
 have hlr:(l.map Span.row).length=l.length:=by simp
 conv=>whnf
 refine sO ?_
 by_cases h:i=j
 . subst h
   refine sT ?_
   refine zak [(1000,some 1000)] rfl rfl ⟨rfl,trivial⟩ rfl ?_ ⟨⟨rfl,.inl ⟨1000,rfl,?_⟩⟩,trivial⟩
   . show HV.osl 1000 2 0 (l.length - (i - i))=HV.osl 1000 2 0 (l.map Span.row).length
     rw [hlr,Nat.sub_self];rfl
   . show HSlot.live (.row _ 2 (l.map Span.row))=HSlot.live (.row _ 2 _)
     exact yy127
 . refine sN ?_
   refine sO ?_
   refine sO ?_
   refine ⟨_,rfl,?_,?_⟩
   . rw [hlr];omega
   conv=>whnf
   refine zaa (by simp;omega) ?_
   conv=>whnf
   refine zap ?_ ?_
   . kernel_rfl
   conv=>whnf
   refine zaa (by simp [splice];omega) ?_
   conv=>whnf
   refine zaa (by simp [splice];omega) ?_
   conv=>whnf
   refine zak [(1000,some 1000)] rfl rfl ⟨rfl,trivial⟩ rfl ?_ ⟨⟨rfl,.inl ⟨1000,rfl,?_⟩⟩,trivial⟩
   . show HV.osl 1000 2 0 _=HV.osl 1000 2 0 _
     congr 1
     simp;omega
   . refine (congrArg (fun r=>HSlot.live (.row _ 2 r)) (zvw (rows:=l.map Span.row) (i:=i) (j:=j) (z:=[pi 0,pi 0]) hij (by rw [hlr];exact hj) ?_ ?_ ?_ ?_ ?_)).trans ?_
     . simp <;> omega
     . simp <;> omega
     . simp <;> omega
     . simp;omega
     . simp;omega
     . rw [List.map_append,List.map_take,List.map_drop];rfl
theorem yqw (l:List Span) (i j:Nat) (hij:i <= j) (hj:j <= l.length) (hb:l.length < 2 ^ 40) :
 FunOK Tryz.prog 198 [.own 1000,i64 i,i64 j] (lk .free [(1000,.live (.row 199 2 (l.map Span.row)))])
  (.own 0) (lk .free [(1000,.dead),(0,.live (.row 199 2 ((l.take i++l.drop j).map Span.row)))]):=by
 have h:=zgx (d:=0) (L:=[]) (rows:=(l.take i++l.drop j).map Span.row++List.replicate (j - i) [pi 0,pi 0]) (zpv (yiq l i j hij hj hb)) (.inl rfl) (by simp;omega) rfl (by decide)
 rwa [List.take_left' (by simp;omega)] at h
theorem zgn (a b:List Span) (x:Span) (i j:Int) (hi:i=a.length) (hj:j=a.length+1) (hb:(a++x :: b).length < 2 ^ 40) :
 FunOK Tryz.prog 198 [.own 1000,i64 i,i64 j] (lk .free [(1000,.live (.row 199 2 ((a++x :: b).map Span.row)))])
  (.own 0) (lk .free [(1000,.dead),(0,.live (.row 199 2 ((a++b).map Span.row)))]):=by
 subst hi hj
 have h:=yqw (a++x :: b) a.length (a.length+1) (by omega) (by simp) hb
 rwa [List.take_left,show (a++x :: b).drop (a.length+1)=b by rw [<- List.drop_drop,List.drop_left];rfl,Int.natCast_add] at h
theorem ycx {inp out:List Span} (a b:List Span) (x:Span) (i j:Int) (h1:inp=a++x :: b) (h2:out=a++b) (hi:i=a.length) (hj:j=a.length+1) (hb:inp.length < 2 ^ 40) :
 FunOK Tryz.prog 198 [.own 1000,i64 i,i64 j] (lk .free [(1000,.live (.row 199 2 (inp.map Span.row)))])
  (.own 0) (lk .free [(1000,.dead),(0,.live (.row 199 2 (out.map Span.row)))]):=by
 subst h1 h2;exact zgn a b x i j hi hj hb
theorem yua {H:Nat -> HSlot} {i1 i2 n o l:Nat} {t1 n1 t2 n2 c:Nat} {r1 r2:List (List PV)} (h1:H i1=.live (.row t1 n1 r1)) (h2:H i2=.live (.buf t2 n2 r2 c)) (hne:i1 ≠ i2) :
 Ov Tryz.prog 204 [.own i1,.osl i2 n o l] H ⟨hbool false,[],[i1,i2]⟩:=by
 obtain ⟨inf,hi,hs⟩:=Option.map_eq_some_iff.1 (show (Tryz.prog.info? 199).map (·.size)=some 2 by kernel_rfl)
 exact ⟨Tryz.f204,199,inf,_,_,i1,i2,_,_,Tryz.func204,rfl,by decide,by kernel_rfl,by kernel_rfl,⟨33,rfl,by kernel_rfl⟩,hi,by rw [hs];decide,rfl,.inl rfl,.inr ⟨_,_,_,rfl⟩,hne,h1,h2,by simp,by simp,rfl⟩
theorem zzk (l:List Span) (v:Span) (hb:l.length < 2 ^ 40) :
 FunOK Tryz.prog 197 [.own 1000,i64 l.length,.own 1001] (lk .free [(1000,.live (.row 199 2 (l.map Span.row))),(1001,.live (.row 199 2 [v.row]))])
  (.own 0) (lk .free [(1000,.dead),(0,.live (.row 199 2 ((l++[v]).map Span.row))),(1001,.dead)]):=by
 refine zal mixed Tryz.func197 (by decide) [1000,1001] (fun i=>by rcases zba (L:=[(1000,HSlot.live (.row 199 2 (l.map Span.row))),(1001,.live (.row 199 2 [v.row]))]) i with h | h;exact .inl h;exact .inr h) ?_
 have hlr:(l.map Span.row).length=l.length:=by simp
 conv=>whnf
 refine sO ?_
 refine sT ?_
 refine zaa (c:=((l.map Span.row).length+[v.row].length) * 16 <= 140737488355328) (by simp;omega) ?_;conv=>whnf
 refine zak [(1000,some 1000),(0,some 25),(1001,some 1001)] rfl rfl ⟨rfl,rfl,trivial⟩ rfl rfl ⟨rfl,⟨rfl,.inl ⟨25,rfl,?_⟩⟩,rfl,trivial⟩
 exact zau (f:=Span.row) rfl rfl
theorem zzl (l:List Span) (k:Nat) (v:Span) (hk:k < l.length) (hb:l.length < 2 ^ 40) :
 FunOK Tryz.prog 197 [.own 1000,i64 k,.own 1001] (lk .free [(1000,.live (.row 199 2 (l.map Span.row))),(1001,.live (.row 199 2 [v.row]))])
  (.own 0) (lk .free [(1000,.dead),(0,.live (.row 199 2 ((l.take k++v :: l.drop k).map Span.row))),(1001,.dead)]):=by
 have hlr:(l.map Span.row).length=l.length:=by simp
 refine ylk (by intro h;rw [h] at hlr;simp at hlr;omega) fun cap hc1 hc2=>?_
 rw [hlr] at hc1
 by_cases hc:l.length+1 <= cap
 . have hw:=zgx (P:=Tryz.prog) (f:=197) (args:=[.osl 1000 2 0 (l.map Span.row).length,i64 k,.own 1001]) (H:=lk .free [(1000,.live (.buf 199 2 (l.map Span.row) cap)),(1001,.live (.row 199 2 [v.row]))])
    (id:=1000) (d:=0) (b:=.buf 199 2 ((l.take k++v :: l.drop k).map Span.row) cap) (t:=199) (n:=2) (k:=l.length+1) (rows:=(l.take k++v :: l.drop k).map Span.row) (L:=[(1001,.dead)]) ?_ (.inr ⟨cap,rfl⟩) (by simp;omega) rfl (by decide)
   . rwa [List.take_of_length_le (by simp;omega)] at hw
   refine zal mixed Tryz.func197 (by decide) [1000,1001] (fun i=>by rcases zba (L:=[(1000,HSlot.live (.buf 199 2 (l.map Span.row) cap)),(1001,.live (.row 199 2 [v.row]))]) i with h | h;exact .inl h;exact .inr h) ?_
   conv=>whnf
   refine sO ?_
   refine sN ?_
   refine zam (z:=((l.map Span.row).length:Int)+1) (W_fit (by omega) (by omega)) ?_;conv=>whnf
   refine zaa (by omega) ?_;conv=>whnf
   refine sN ?_
   refine zam (z:=((l.map Span.row).length:Int)+1) (W_fit (by omega) (by omega)) ?_;conv=>whnf
   refine sO ?_
   refine zbc (z':=((k+1:Nat):Int)) ?_ ?_
   . show W ((k:Int)+1)=_
     rw [W_fit (by omega) (by omega)];push_cast;rfl
   conv=>whnf
   refine sO ?_
   refine yqk (yua rfl rfl (by decide)) ?_;conv=>whnf
   refine zbc (z':=((k+1:Nat):Int)) ?_ ?_
   . show W ((k:Int)+1)=_
     rw [W_fit (by omega) (by omega)];push_cast;rfl
   conv=>whnf
   refine sO ?_
   refine sO ?_
   refine zev (o':=k) (n':=l.length - k) (by simp) ?_ ?_
   . show min _ _=l.length - k
     simp;omega
   refine zdq (l:=l) (by omega) ?_
   conv=>whnf
   refine sOm ?_
   refine zap ?_ ?_
   . kernel_rfl
   conv=>whnf
   refine sO ?_
   refine zaa (by simp [splice];omega) ?_;conv=>whnf
   refine zak [(1000,some 1000),(1001,some 1001)] rfl rfl ⟨rfl,rfl,trivial⟩ rfl ?_ ⟨⟨rfl,.inl ⟨1000,rfl,?_⟩⟩,rfl,trivial⟩
   . show HV.osl 1000 2 0 _=HV.osl 1000 2 0 _
     congr 1
     simp
   . refine (congrArg (fun r=>HSlot.live (.buf _ 2 r cap)) (yqu (rows:=l.map Span.row) (k:=k) (by omega) ?_ ?_ ?_ ?_)).trans ?_
     . simp <;> omega
     . rw [List.map_drop]
     . simp <;> omega
     . simp <;> omega
     . refine congrArg (fun r=>HSlot.live (.buf _ 2 r cap)) (row1k (f:=Span.row) ?_)
       simp;omega
 . refine zal mixed Tryz.func197 (by decide) [1000,1001] (fun i=>by rcases zba (L:=[(1000,HSlot.live (.buf 199 2 (l.map Span.row) cap)),(1001,.live (.row 199 2 [v.row]))]) i with h | h;exact .inl h;exact .inr h) ?_
   conv=>whnf
   refine sO ?_
   refine sN ?_
   refine zam (z:=((l.map Span.row).length:Int)+1) (W_fit (by omega) (by omega)) ?_;conv=>whnf
   refine zaa (by omega) ?_;conv=>whnf
   refine sT ?_
   refine sO ?_
   refine zam (z:=((l.map Span.row).length:Int)+1) (W_fit (by omega) (by omega)) ?_;conv=>whnf
   refine zbc (z':=((l.length+1 - k:Nat):Int)) ?_ ?_
   . show W (((l.map Span.row).length:Int)+1 - k)=_
     rw [W_fit (by omega) (by omega)];omega
   conv=>whnf
   refine zaa (show 0 <= _ /\ _ <= _ /\ _ < _ /\ _ <= _ /\ (_:Int) * 16 <= (140737488355328:Int) from ?_) ?_
   . simp;omega
   conv=>whnf
   refine zaa ?_ ?_
   . simp;omega
   conv=>whnf
   refine zaa (by simp [splice];omega) ?_;conv=>whnf
   refine zbc (z':=((k+1:Nat):Int)) ?_ ?_
   . show W ((k:Int)+1)=_
     rw [W_fit (by omega) (by omega)];push_cast;rfl
   conv=>whnf
   refine zaa (by simp [splice];omega) ?_;conv=>whnf
   refine zaa (by simp [splice];omega) ?_;conv=>whnf
   refine zev (o':=k) (n':=l.length - k) (by simp) ?_ ?_
   . show min _ _=l.length - k
     simp [splice];omega
   refine zdq (l:=l) (by omega) ?_
   conv=>whnf
   refine zaa (by simp [splice];omega) ?_;conv=>whnf
   refine zap ?_ ?_
   . kernel_rfl
   conv=>whnf
   refine zak [(1000,some 1000),(0,some 40),(1001,some 1001)] rfl rfl ⟨rfl,rfl,trivial⟩ rfl rfl ⟨rfl,⟨rfl,.inl ⟨40,rfl,?_⟩⟩,rfl,trivial⟩
   refine (congrArg (fun r=>HSlot.live (.row _ 2 r)) (yqv (rows:=l.map Span.row) (k:=k) (by omega) ?_ ?_ ?_ ?_ ?_)).trans ?_
   . simp
   . simp
   . simp;omega
   . simp
   . rw [List.map_drop]
   . refine congrArg (fun r=>HSlot.live (.row _ 2 r)) (row1k (f:=Span.row) ?_)
     simp;omega
theorem ycy (a b:List Span) (v:Span) (k:Int) (hk:k=a.length) (hb:(a++b).length < 2 ^ 40) :
 FunOK Tryz.prog 197 [.own 1000,i64 k,.own 1001] (lk .free [(1000,.live (.row 199 2 ((a++b).map Span.row))),(1001,.live (.row 199 2 [v.row]))])
  (.own 0) (lk .free [(1000,.dead),(0,.live (.row 199 2 ((a++v :: b).map Span.row))),(1001,.dead)]):=by
 subst hk
 cases b with
 | nil =>
  rw [List.append_nil] at hb ⊢
  exact zzk a v hb
 | cons x b =>
  have h:=zzl (a++x :: b) a.length v (by simp) hb
  rwa [List.take_left,List.drop_left] at h
namespace Snd
open Ser
theorem yve (l:List Queued) (i j:Nat) (hij:i <= j) (hj:j <= l.length) (hb:l.length < 2 ^ 40) :
 FunOK Tryz.prog 139 [.osl 1000 10 0 (l.map Queued.row).length,i64 i,i64 j] (lk .free [(1000,.live (.row 117 10 (l.map Queued.row)))])
  (.osl 1000 10 0 (l.length - (j - i))) (lk .free [(1000,.live (.row 117 10 ((l.take i++l.drop j).map Queued.row++List.replicate (j - i) [pi 0,pi 0,pi 0,pi 0,pi 0,pi 0,pb false,pi 0,pi 0,.v (.slice none 0 0)])))]):=by
 refine zal mixed Tryz.func139 (by decide) [1000] zba ?_
 have hlr:(l.map Queued.row).length=l.length:=by simp
 conv=>whnf
 refine sO ?_
 by_cases h:i=j
 . subst h
   refine sT ?_
   refine zak [(1000,some 1000)] rfl rfl ⟨rfl,trivial⟩ rfl ?_ ⟨⟨rfl,.inl ⟨1000,rfl,?_⟩⟩,trivial⟩
   . show HV.osl 1000 10 0 (l.length - (i - i))=HV.osl 1000 10 0 (l.map Queued.row).length
     rw [hlr,Nat.sub_self];rfl
   . show HSlot.live (.row _ 10 (l.map Queued.row))=HSlot.live (.row _ 10 _)
     exact yy127
 . refine sN ?_
   refine sO ?_
   refine sO ?_
   refine ⟨_,rfl,?_,?_⟩
   . rw [hlr];omega
   conv=>whnf
   refine zaa (by simp;omega) ?_
   conv=>whnf
   refine zap ?_ ?_
   . kernel_rfl
   conv=>whnf
   refine zaa (by simp [splice];omega) ?_
   conv=>whnf
   refine zaa (by simp [splice];omega) ?_
   conv=>whnf
   refine zak [(1000,some 1000)] rfl rfl ⟨rfl,trivial⟩ rfl ?_ ⟨⟨rfl,.inl ⟨1000,rfl,?_⟩⟩,trivial⟩
   . show HV.osl 1000 10 0 _=HV.osl 1000 10 0 _
     congr 1
     simp;omega
   . refine (congrArg (fun r=>HSlot.live (.row _ 10 r)) (zvw (rows:=l.map Queued.row) (i:=i) (j:=j) (z:=[pi 0,pi 0,pi 0,pi 0,pi 0,pi 0,pb false,pi 0,pi 0,.v (.slice none 0 0)]) hij (by rw [hlr];exact hj) ?_ ?_ ?_ ?_ ?_)).trans ?_
     . simp <;> omega
     . simp <;> omega
     . simp <;> omega
     . simp;omega
     . simp;omega
     . rw [List.map_append,List.map_take,List.map_drop];rfl
theorem delq (l:List Queued) (i j:Nat) (hij:i <= j) (hj:j <= l.length) (hb:l.length < 2 ^ 40) :
 FunOK Tryz.prog 139 [.own 1000,i64 i,i64 j] (lk .free [(1000,.live (.row 117 10 (l.map Queued.row)))])
  (.own 0) (lk .free [(1000,.dead),(0,.live (.row 117 10 ((l.take i++l.drop j).map Queued.row)))]):=by
 have h:=zgx (d:=0) (L:=[]) (rows:=(l.take i++l.drop j).map Queued.row++List.replicate (j - i) [pi 0,pi 0,pi 0,pi 0,pi 0,pi 0,pb false,pi 0,pi 0,.v (.slice none 0 0)]) (zpv (yve l i j hij hj hb)) (.inl rfl) (by simp;omega) rfl (by decide)
 rwa [List.take_left' (by simp;omega)] at h
theorem zhh (s:Sched) (m:Queued) (bytes:Int) (over:Bool) (hb:s.had.length < 2 ^ 40) (c2:0 <= m.message.stream) (c3:m.message.stream < s.had.length) :
 FunOK Tryz.prog 138 [s.hv,m.hv,i64 bytes,hbool over] zad (.agg [i64 (Sch.had s m bytes over).last,i64 (Sch.had s m bytes over).hand,.own 0]) (lk .free [(0,rowT (Sch.had s m bytes over).had)]):=by
 have hy:(s.had.map fun n=>[pi n]).set m.message.stream.toNat [pi (W (s.had[m.message.stream.toNat]+bytes))]=(Sch.had s m bytes over).had.map fun n=>[pi n]:=by
  simp only [Sch.had,if_pos (And.intro c2 c3)]
  rw [List.map_set,List.getElem?_eq_getElem (by omega)]
  rfl
 refine zal mixed Tryz.func138 (by decide) [] (fun _=>.inl rfl) ?_
 conv=>whnf
 (refine zao [(0,11)] ?_;(conv=>whnf);refine dO (Sch.zci s hb) ?_)
 refine sD ?_
 refine zaf (fun c1=>?_) (fun c1=>?_)
 all_goals
  subst c1
  conv=>whnf
  repeat (refine hcut.go ?_;conv=>whnf)
  refine zac ?_ ?_
  . simpa using c2
  conv=>whnf
  refine zac ?_ ?_
  . simpa using c3
  conv=>whnf
  repeat (refine hcut.go ?_;conv=>whnf)
  refine sOm ?_
  refine zbi (r:=[pi s.had[m.message.stream.toNat]]) (by omega) (by rw [Int.toNat_natCast,List.getElem?_map,List.getElem?_eq_getElem (h:=show m.message.stream.toNat < s.had.length by omega)];rfl) ?_
  conv=>whnf
  refine zbp ?_;conv=>whnf
  refine sOm ?_
  refine zbi (r:=[pi s.had[m.message.stream.toNat]]) (by omega) (by rw [Int.toNat_natCast,List.getElem?_map,List.getElem?_eq_getElem (h:=show m.message.stream.toNat < s.had.length by omega)];rfl) ?_
  conv=>whnf
  refine zak [(0,some 11)] rfl rfl trivial rfl rfl ⟨⟨rfl,.inl ⟨11,rfl,?_⟩⟩,trivial⟩
  exact zan hy
theorem ymj {α:Type} {p:α -> Bool}:∀ {l:List α} {k:Nat},0 <= zbl p k l -> ∃ i,i < l.length /\ zbl p k l=((k+i:Nat):Int)
 | [],k,h=>by simp [zbl] at h
 | y :: r,k,h=>by
  simp only [zbl] at h ⊢
  split at h
  . rename_i hp;exact ⟨0,by simp,by rw [if_pos hp];simp⟩
  . rename_i hp
    obtain ⟨i,h1,h2⟩:=ymj h
    exact ⟨i+1,by simp;omega,by rw [if_neg hp,h2];congr 1;omega⟩
theorem zvx {t:Int} {s:Sched} {q:List Queued} (h:0 <= Sch.next t s q):∃ k:Nat,k < q.length /\ Sch.next t s q=k:=by
 have hf:∀ st,0 <= Sch.first q st -> ∃ k:Nat,k < q.length /\ Sch.first q st=k:=fun st h=>by
  obtain ⟨i,h1,h2⟩:=ymj h;exact ⟨i,h1,by rw [Sch.first,h2];simp⟩
 have ha:∀ (j k:Nat) (last n:Int),0 <= Sch.after q last n k j -> ∃ i:Nat,i < q.length /\ Sch.after q last n k j=i:=by
  intro j
  induction j with
  | zero=>intro k last n h;simp [Sch.after] at h
  | succ j ih =>
   intro k last n h
   rw [Sch.after] at h ⊢
   split at h
   . rename_i c;rw [if_pos c];exact hf _ h
   . rename_i c;rw [if_neg c];exact ih _ _ _ h
 have hr:∀ (j k:Nat),0 <= Sch.zem q k j -> ∃ i:Nat,i < q.length /\ Sch.zem q k j=i:=by
  intro j
  induction j with
  | zero=>intro k h;simp [Sch.zem] at h
  | succ j ih =>
   intro k h
   rw [Sch.zem] at h ⊢
   split at h
   . rename_i c;rw [if_pos c];exact hf _ h
   . rename_i c;rw [if_neg c];exact ih _ h
 unfold Sch.next at h ⊢
 split at h
 . omega
 rename_i c0
 rw [if_neg c0]
 split at h
 . omega
 rename_i c1
 rw [if_neg c1]
 split at h
 . rename_i c;rw [if_pos c]
   split at h
   . rename_i c;rw [if_pos c];obtain ⟨i,h1,h2⟩:=ymj h;exact ⟨i,h1,by rw [Sch.zlg,h2];simp⟩
   . rename_i c;rw [if_neg c];exact ha _ _ _ _ h
 rename_i c;rw [if_neg c]
 split at h
 . rename_i c;rw [if_pos c];exact ha _ _ _ _ h
 rename_i c;rw [if_neg c]
 split at h
 . rename_i c;rw [if_pos c];exact hr _ _ h
 rename_i c;rw [if_neg c]
 split at h
 . rename_i c;rw [if_pos c];unfold Sch.least at h ⊢
   split at h
   . omega
   . rename_i c;rw [if_neg c];exact hf _ h
 . rename_i c;rw [if_neg c];exact ⟨0,by omega,rfl⟩
structure zqm (s:Sender) (m:Queued):Prop where
 mid:MFit s m
 had:m.message.stream < s.sched.had.length
 sent:0 <= m.sent
 left:m.sent < m.message.data.length
 data:m.message.data.length < 2 ^ 30
structure NFit (s:Sender):Prop where
 g:GFit s
 some:0 < s.paths.length
 part:1 <= s.config.part
 part2:s.config.part < 2 ^ 30
 msg:∀ m ∈ s.queue,zqm s m
def nx (s:Sender) (o:List (List Chunk)):Pump × Bool:=match next ⟨s,o⟩ with
 | none=>(⟨s,o⟩,false)
 | some q=>(q,true)
theorem yfz {s:Sender} {o:List (List Chunk)} (h:zcy s < 0):nx s o=(⟨s,o⟩,false):=by
 rw [nx,next,if_pos (.inl h)]
theorem yga {s:Sender} {o:List (List Chunk)} {w:Path} (hw:s.paths[choose s]?=some w) (h:¬ w.flight < w.window):nx s o=(⟨s,o⟩,false):=by
 rw [nx,next,if_pos (.inr (.inl (by simp only [opened,hw];simpa using h)))]
theorem ygb {s:Sender} {o:List (List Chunk)} (h:(s.out.length:Int) >= 60):nx s o=(⟨s,o⟩,false):=by
 rw [nx,next,if_pos (.inr (.inr h))]
theorem ygc {s:Sender} {o:List (List Chunk)} {w:Path} {k:Nat} {m:Queued} (h1:zcy s=k) (hm:s.queue[k]?=some m) (hw:s.paths[choose s]?=some w) (h2:w.flight < w.window) (h3:¬ (s.out.length:Int) >= 60) (h4:flight s > 0 /\ W (flight s+many s m) > s.room) :
 nx s o=(⟨s,o⟩,false):=by
 rw [nx,next,if_neg (by rw [h1];rintro (h | h | h);omega;(simp only [opened,hw] at h;simp at h;omega);exact h3 h)]
 simp only [h1,Int.toNat_natCast,hm]
 rw [if_pos h4]
theorem zqn {s:Sender} {o:List (List Chunk)} {w:Path} {k:Nat} {m:Queued} (h1:zcy s=k) (hm:s.queue[k]?=some m) (hw:s.paths[choose s]?=some w) (h2:w.flight < w.window) (h3:¬ (s.out.length:Int) >= 60) (h4:¬ (flight s > 0 /\ W (flight s+many s m) > s.room)) :
 nx s o=(next1 ⟨s,o⟩ k m (many s m),true):=by
 rw [nx,next,if_neg (by rw [h1];rintro (h | h | h);omega;(simp only [opened,hw] at h;simp at h;omega);exact h3 h)]
 simp only [h1,Int.toNat_natCast,hm]
 rw [if_neg h4]
theorem zmu {s:Sender} {m:Queued} (hp:1 <= s.config.part) (hp2:s.config.part < 2 ^ 30) (_:0 <= m.sent) (h2:m.sent < m.message.data.length) (_:m.message.data.length < 2 ^ 30):1 <= many s m /\ many s m < 2 ^ 30 /\ m.sent+many s m <= m.message.data.length:=by
 unfold many;split <;> omega
abbrev ovr (s:Sender) (m:Queued):Bool:=m.sent+many s m == ((m.message.data.map bRow).length:Int)
theorem ysm (s:Sender) (m:Queued):decide (m.sent+many s m=m.message.data.length)=ovr s m:=by
 unfold ovr
 rw [List.length_map,Bool.eq_iff_iff];simp
def m2 (s:Sender) (m:Queued):Queued:={ m with mid:=midOf s m,sent:=m.sent+many s m,parts:=W (m.parts+1) }
def x0 (s:Sender) (m:Queued):Sent:=⟨s.next,m.id,0,0,0,0,m.came,m.message.life,m.message.tries,⟨1,tag s.next,m.message.stream,tag (midOf s m),m.parts,ovr s m,m.message.ordered,(m.message.data.drop m.sent.toNat).take (many s m).toNat,[],0,[]⟩⟩
def s2 (s:Sender) (k:Nat) (m:Queued):Sender:={ s with mids:=zcm s m,sched:=Sch.had s.sched { m with mid:=midOf s m } (many s m) (ovr s m),out:=s.out++[x0 s m],next:=W (s.next+1),queue:=s.queue.set k (m2 s m) }
theorem zdx {s:Sender} {o:List (List Chunk)} {k c:Nat} {m:Queued} {w:Path} {l:List Chunk} (hc:choose s=c) (hw:s.paths[c]?=some w) (hl:o[c]?=some l) :
 next1 ⟨s,o⟩ k m (many s m)=⟨{ flyS (s2 s k m) s.out.length c (x0 s m) w with queue:=if ovr s m then s.queue.eraseIdx k else s.queue.set k (m2 s m) },o.set c (l++[(x0 s m).chunk])⟩:=by
 have e:=ysm s m
 unfold next1 cut
 simp only [e]
 rw [hc]
 exact ztc (s:={ s2 s k m with queue:=if ovr s m then s.queue.eraseIdx k else s.queue.set k (m2 s m) }) (i:=s.out.length) (x:=x0 s m) (a:=w) (l:=l) (by simp [s2]) hw hl
theorem q2row {s:Sender} {k:Nat} {m:Queued} {t:TypeId} {r1:List PV}:HSlot.live (.row t 10 ((((midS s k m).queue.map Queued.row).set k r1).set k (m2 s m).row))=HSlot.live (.row t 10 ((s2 s k m).queue.map Queued.row)):=by
 rw [List.set_set]
 exact (zdn (f:=Queued.row) (y:=m2 s m) rfl).trans (zan (by show ((s.queue.set k _).set k _).map _=_;rw [List.set_set];rfl))
theorem zhi {α:Type} {l:List α} {k:Nat} {y:α} (_:k < l.length):(l.set k y).take k++(l.set k y).drop (k+1)=l.eraseIdx k:=by
 rw [List.eraseIdx_eq_take_drop_succ,List.take_set_of_le (Nat.le_refl _),List.drop_set_of_lt (Nat.lt_succ_self _)]
theorem zmq (s:Sender) (a:List Chunk) (hs:NFit s) (h1p:s.paths.length=1) (hb:a.length < 2 ^ 29):FunOK Tryz.prog 96 [.ptr 1000 0] (lk .free (pH1 s a)) (hbool (nx s [a]).2) (lk .free (pD1 (nx s [a]).1.s (nth0 (nx s [a]).1.out))):=by
 obtain ⟨g,hp,hp1,hp2,hmsg⟩:=hs
 obtain ⟨⟨f1,f2,f3,f4,f5,f6,f7⟩,g2,g3,g4⟩:=g
 obtain ⟨hch,hch2⟩:=zck hp
 have hc0:choose s=0:=by omega
 have pc:=Paths.zdd s.paths (by omega)
 rw [hch,hc0] at pc
 have pn:=Sch.zqa s.config.turns s.sched s.queue (by omega) (by omega)
 obtain ⟨w,hw⟩:∃ w,s.paths[0]?=some w:=⟨_,List.getElem?_eq_getElem (by omega)⟩
 have hwc:s.paths[choose s]?=some w:=by rw [hc0];exact hw
 generalize hG:nx s [a]=G
 refine zal mixed Tryz.func96 (by decide) [1000,1001,1002,1003,1004,1005,1006,1007,1008] zba ?_
 conv=>whnf
 (refine cL ?_;refine dL pc ?_)
 by_cases c1:zcy s < 0
 case pos =>
  (refine cL ?_;refine dL pn ?_)
  refine sD ?_
  refine zac ?_ ?_
  . exact decide_eq_true c1
  conv=>whnf
  rw [yfz c1] at hG
  exact yy51
 obtain ⟨k,hkl,hke⟩:=zvx (t:=s.config.turns) (s:=s.sched) (q:=s.queue) (by unfold zcy at c1;omega)
 have hke':zcy s=k:=hke
 rw [hke] at pn
 obtain ⟨m,hm⟩:∃ m,s.queue[k]?=some m:=⟨_,List.getElem?_eq_getElem hkl⟩
 have hmf:=hmsg m (List.mem_of_getElem? hm)
 obtain ⟨mf,mh,ms,ml,md⟩:=hmf
 obtain ⟨n1,n2,n3⟩:=zmu (s:=s) (m:=m) hp1 hp2 ms ml md
 (refine cL ?_;refine dL pn ?_)
 refine sD ?_
 try (refine zab ?_ ?_;· simp;conv=>whnf)
 refine sOm ?_
 refine zaj hw rfl ?_;conv=>whnf
 (refine cL ?_;refine dL (Paths.zhb w) ?_)
 by_cases c2:w.flight < w.window
 case neg =>
  refine zac ?_ ?_
  . simpa using c2
  conv=>whnf
  rw [yga hwc c2] at hG
  exact yy51
 refine zab ?_ ?_
 . simpa using c2
 conv=>whnf
 by_cases c3:(s.out.length:Int) >= 60
 case pos =>
  refine zac ?_ ?_
  . rw [List.length_map];exact decide_eq_true c3
  conv=>whnf
  rw [ygb c3] at hG
  exact yy51
 refine zab ?_ ?_
 . rw [List.length_map];exact decide_eq_false c3
 conv=>whnf
 repeat (refine hcut.go ?_;conv=>whnf)
 refine sOm ?_
 refine zaj hm rfl ?_;conv=>whnf
 refine zaj hm rfl ?_;conv=>whnf
 refine zbc (z':=(m.message.data.length:Int) - m.sent) ?_ ?_
 . show W _=_
   rw [List.length_map];exact W_fit (by omega) (by omega)
 conv=>whnf
 refine sD ?_
 (refine zae [] [(1000,1000),(1001,1001),(1002,1002),(1003,1003),(1004,1004),(1005,1005),(1006,1006),(1007,1007),(1008,1008)] [] ?_;(conv=>whnf);refine dG (zzd s a f4) ?_)
 have hWs:W (m.sent+many s m)=m.sent+many s m:=W_fit (by omega) (by omega)
 by_cases c4:flight s > 0
 case pos =>
  refine zac ?_ ?_
  . exact decide_eq_true c4
  conv=>whnf
  refine sR ?_
  by_cases c5:W (flight s+many s m) > s.room
  case pos =>
   refine zac ?_ ?_
   . exact decide_eq_true c5
   conv=>whnf
   rw [ygc hke' hm hwc c2 c3 ⟨c4,c5⟩] at hG
   exact yy51
  refine zab ?_ ?_
  . exact decide_eq_false c5
  conv=>whnf
  repeat (refine hcut.go ?_;conv=>whnf)
  rw [zqn hke' hm hwc c2 c3 fun h=>c5 h.2] at hG
  exact yy2
 refine zab ?_ ?_
 . exact decide_eq_false c4
 conv=>whnf
 repeat (refine hcut.go ?_;conv=>whnf)
 rw [zqn hke' hm hwc c2 c3 fun h=>c4 h.1] at hG
 exact yy2
end Snd
namespace Snd
open Ser
theorem zzm (s:Sender) (a b:List Chunk) (hs:NFit s) (h1p:s.paths.length=2) (hc0:choose s=0) (hb:a.length+b.length < 2 ^ 29):FunOK Tryz.prog 96 [.ptr 1000 0] (lk .free (pH2 s a b)) (hbool (nx s [a,b]).2) (lk .free (pD2 (nx s [a,b]).1.s (nth0 (nx s [a,b]).1.out) (nth1 (nx s [a,b]).1.out))):=by
 obtain ⟨g,hp,hp1,hp2,hmsg⟩:=hs
 obtain ⟨⟨f1,f2,f3,f4,f5,f6,f7⟩,g2,g3,g4⟩:=g
 obtain ⟨hch,hch2⟩:=zck hp
 have pc:=Paths.zdd s.paths (by omega)
 rw [hch,hc0] at pc
 have pn:=Sch.zqa s.config.turns s.sched s.queue (by omega) (by omega)
 obtain ⟨w,hw⟩:∃ w,s.paths[0]?=some w:=⟨_,List.getElem?_eq_getElem (by omega)⟩
 have hwc:s.paths[choose s]?=some w:=by rw [hc0];exact hw
 generalize hG:nx s [a,b]=G
 refine zal mixed Tryz.func96 (by decide) [1000,1001,1002,1003,1004,1005,1006,1007,1008,1009] zba ?_
 conv=>whnf
 (refine cL ?_;refine dL pc ?_)
 by_cases c1:zcy s < 0
 case pos =>
  (refine cL ?_;refine dL pn ?_)
  refine sD ?_
  refine zac ?_ ?_
  . exact decide_eq_true c1
  conv=>whnf
  rw [yfz c1] at hG
  exact yy16
 obtain ⟨k,hkl,hke⟩:=zvx (t:=s.config.turns) (s:=s.sched) (q:=s.queue) (by unfold zcy at c1;omega)
 have hke':zcy s=k:=hke
 rw [hke] at pn
 obtain ⟨m,hm⟩:∃ m,s.queue[k]?=some m:=⟨_,List.getElem?_eq_getElem hkl⟩
 have hmf:=hmsg m (List.mem_of_getElem? hm)
 obtain ⟨mf,mh,ms,ml,md⟩:=hmf
 obtain ⟨n1,n2,n3⟩:=zmu (s:=s) (m:=m) hp1 hp2 ms ml md
 (refine cL ?_;refine dL pn ?_)
 refine sD ?_
 try (refine zab ?_ ?_;· simp;conv=>whnf)
 refine sOm ?_
 refine zaj hw rfl ?_;conv=>whnf
 (refine cL ?_;refine dL (Paths.zhb w) ?_)
 by_cases c2:w.flight < w.window
 case neg =>
  refine zac ?_ ?_
  . simpa using c2
  conv=>whnf
  rw [yga hwc c2] at hG
  exact yy16
 refine zab ?_ ?_
 . simpa using c2
 conv=>whnf
 by_cases c3:(s.out.length:Int) >= 60
 case pos =>
  refine zac ?_ ?_
  . rw [List.length_map];exact decide_eq_true c3
  conv=>whnf
  rw [ygb c3] at hG
  exact yy16
 refine zab ?_ ?_
 . rw [List.length_map];exact decide_eq_false c3
 conv=>whnf
 repeat (refine hcut.go ?_;conv=>whnf)
 refine sOm ?_
 refine zaj hm rfl ?_;conv=>whnf
 refine zaj hm rfl ?_;conv=>whnf
 refine zbc (z':=(m.message.data.length:Int) - m.sent) ?_ ?_
 . show W _=_
   rw [List.length_map];exact W_fit (by omega) (by omega)
 conv=>whnf
 refine sD ?_
 (refine zae [] [(1000,1000),(1001,1001),(1002,1002),(1003,1003),(1004,1004),(1005,1005),(1006,1006),(1007,1007),(1008,1008),(1009,1009)] [] ?_;(conv=>whnf);refine dG (znt s a b f4) ?_)
 have hWs:W (m.sent+many s m)=m.sent+many s m:=W_fit (by omega) (by omega)
 by_cases c4:flight s > 0
 case pos =>
  refine zac ?_ ?_
  . exact decide_eq_true c4
  conv=>whnf
  refine sR ?_
  by_cases c5:W (flight s+many s m) > s.room
  case pos =>
   refine zac ?_ ?_
   . exact decide_eq_true c5
   conv=>whnf
   rw [ygc hke' hm hwc c2 c3 ⟨c4,c5⟩] at hG
   exact yy16
  refine zab ?_ ?_
  . exact decide_eq_false c5
  conv=>whnf
  repeat (refine hcut.go ?_;conv=>whnf)
  rw [zqn hke' hm hwc c2 c3 fun h=>c5 h.2] at hG
  exact yy0
 refine zab ?_ ?_
 . exact decide_eq_false c4
 conv=>whnf
 repeat (refine hcut.go ?_;conv=>whnf)
 rw [zqn hke' hm hwc c2 c3 fun h=>c4 h.1] at hG
 exact yy0
end Snd
namespace Snd
open Ser
theorem zzn (s:Sender) (a b:List Chunk) (hs:NFit s) (h1p:s.paths.length=2) (hc0:choose s=1) (hb:a.length+b.length < 2 ^ 29):FunOK Tryz.prog 96 [.ptr 1000 0] (lk .free (pH2 s a b)) (hbool (nx s [a,b]).2) (lk .free (pD2 (nx s [a,b]).1.s (nth0 (nx s [a,b]).1.out) (nth1 (nx s [a,b]).1.out))):=by
 obtain ⟨g,hp,hp1,hp2,hmsg⟩:=hs
 obtain ⟨⟨f1,f2,f3,f4,f5,f6,f7⟩,g2,g3,g4⟩:=g
 obtain ⟨hch,hch2⟩:=zck hp
 have pc:=Paths.zdd s.paths (by omega)
 rw [hch,hc0] at pc
 have pn:=Sch.zqa s.config.turns s.sched s.queue (by omega) (by omega)
 obtain ⟨w,hw⟩:∃ w,s.paths[1]?=some w:=⟨_,List.getElem?_eq_getElem (by omega)⟩
 have hwc:s.paths[choose s]?=some w:=by rw [hc0];exact hw
 generalize hG:nx s [a,b]=G
 refine zal mixed Tryz.func96 (by decide) [1000,1001,1002,1003,1004,1005,1006,1007,1008,1009] zba ?_
 conv=>whnf
 (refine cL ?_;refine dL pc ?_)
 by_cases c1:zcy s < 0
 case pos =>
  (refine cL ?_;refine dL pn ?_)
  refine sD ?_
  refine zac ?_ ?_
  . exact decide_eq_true c1
  conv=>whnf
  rw [yfz c1] at hG
  exact yy16
 obtain ⟨k,hkl,hke⟩:=zvx (t:=s.config.turns) (s:=s.sched) (q:=s.queue) (by unfold zcy at c1;omega)
 have hke':zcy s=k:=hke
 rw [hke] at pn
 obtain ⟨m,hm⟩:∃ m,s.queue[k]?=some m:=⟨_,List.getElem?_eq_getElem hkl⟩
 have hmf:=hmsg m (List.mem_of_getElem? hm)
 obtain ⟨mf,mh,ms,ml,md⟩:=hmf
 obtain ⟨n1,n2,n3⟩:=zmu (s:=s) (m:=m) hp1 hp2 ms ml md
 (refine cL ?_;refine dL pn ?_)
 refine sD ?_
 try (refine zab ?_ ?_;· simp;conv=>whnf)
 refine sOm ?_
 refine zaj hw rfl ?_;conv=>whnf
 (refine cL ?_;refine dL (Paths.zhb w) ?_)
 by_cases c2:w.flight < w.window
 case neg =>
  refine zac ?_ ?_
  . simpa using c2
  conv=>whnf
  rw [yga hwc c2] at hG
  exact yy16
 refine zab ?_ ?_
 . simpa using c2
 conv=>whnf
 by_cases c3:(s.out.length:Int) >= 60
 case pos =>
  refine zac ?_ ?_
  . rw [List.length_map];exact decide_eq_true c3
  conv=>whnf
  rw [ygb c3] at hG
  exact yy16
 refine zab ?_ ?_
 . rw [List.length_map];exact decide_eq_false c3
 conv=>whnf
 repeat (refine hcut.go ?_;conv=>whnf)
 refine sOm ?_
 refine zaj hm rfl ?_;conv=>whnf
 refine zaj hm rfl ?_;conv=>whnf
 refine zbc (z':=(m.message.data.length:Int) - m.sent) ?_ ?_
 . show W _=_
   rw [List.length_map];exact W_fit (by omega) (by omega)
 conv=>whnf
 refine sD ?_
 (refine zae [] [(1000,1000),(1001,1001),(1002,1002),(1003,1003),(1004,1004),(1005,1005),(1006,1006),(1007,1007),(1008,1008),(1009,1009)] [] ?_;(conv=>whnf);refine dG (znt s a b f4) ?_)
 have hWs:W (m.sent+many s m)=m.sent+many s m:=W_fit (by omega) (by omega)
 by_cases c4:flight s > 0
 case pos =>
  refine zac ?_ ?_
  . exact decide_eq_true c4
  conv=>whnf
  refine sR ?_
  by_cases c5:W (flight s+many s m) > s.room
  case pos =>
   refine zac ?_ ?_
   . exact decide_eq_true c5
   conv=>whnf
   rw [ygc hke' hm hwc c2 c3 ⟨c4,c5⟩] at hG
   exact yy16
  refine zab ?_ ?_
  . exact decide_eq_false c5
  conv=>whnf
  repeat (refine hcut.go ?_;conv=>whnf)
  rw [zqn hke' hm hwc c2 c3 fun h=>c5 h.2] at hG
  exact yy1
 refine zab ?_ ?_
 . exact decide_eq_false c4
 conv=>whnf
 repeat (refine hcut.go ?_;conv=>whnf)
 rw [zqn hke' hm hwc c2 c3 fun h=>c4 h.1] at hG
 exact yy1
theorem yir (s:Sender) (a b:List Chunk) (hs:NFit s) (h1p:s.paths.length=2) (hb:a.length+b.length < 2 ^ 29):FunOK Tryz.prog 96 [.ptr 1000 0] (lk .free (pH2 s a b)) (hbool (nx s [a,b]).2) (lk .free (pD2 (nx s [a,b]).1.s (nth0 (nx s [a,b]).1.out) (nth1 (nx s [a,b]).1.out))):=by
 have hc01:choose s=0 \/ choose s=1:=by have:=(zck hs.some).2;omega
 exact hc01.elim (fun h=>zzm s a b hs h1p h hb) fun h=>zzn s a b hs h1p h hb
end Snd
namespace Snd
open Ser
abbrev rowPk (l:List Packet):HSlot:=.live (.row 110 3 (l.map Packet.row))
abbrev roK (l:List Chunk):HSlot:=.ro (.row 61 11 (l.map Chunk.row))
def wndK (id:Nat):List Chunk -> List Chunk -> HV
 | [],_=>.own id
 | _ :: a,b=>.osl id 11 (a.length+1) b.length
theorem zlp {α:Type} {f:α -> List PV} {l a b c:List α} {o n:Nat} {K:List (List PV) -> Prop} (h:l=a++b++c) (ho:o=a.length) (hn:n=b.length) (hk:K (b.map f)):hsub (l.map f) o n K:=by
 exact yy132
theorem zfj {i s o o' n n':Nat} (ho:o=o') (hn:n=n'):HV.osl i s o n=.osl i s o' n':=by rw [ho,hn]
theorem zqo {most:Int} {l:List Chunk} (h:l ≠ []):∃ k:Nat,room1 most l=k /\ 1 <= k /\ k <= l.length:=by
 obtain ⟨r,h1,h2,-⟩:=Pck.ycs l most
 have h3:=List.length_pos_iff.2 h
 have h4:=h2.1
 unfold room1
 rw [h1]
 split
 . exact ⟨1,rfl,by omega,by omega⟩
 . exact ⟨r,rfl,by omega,by omega⟩
theorem zix (most path:Int) (n:Nat):packN most path n []=[]:=by cases n <;> simp [packN]
def Okc (c:Chunk):Prop:=c.spans.length < 2 ^ 38 /\ c.skips.length < 2 ^ 38
abbrev pE1 (s:Sender) (ps:List Packet):List (Nat × HSlot):=(1000,.live (.cells 139 (pmpC s (.own 1001) (.own 1002) (.own 1003) (.own 1004) (.own 1005) (.own 1006) (.own 1007)))) :: sndB s 1001 1002 1003 1004 1005 1006 [(1007,.dead),(1008,.dead),(0,rowPk ps)]
abbrev pR1 (s:Sender) (a:List Chunk) (L:List (Nat × HSlot)):List (Nat × HSlot):=(1000,.live (.cells 139 (pmpC s (.own 1001) (.own 1002) (.own 1003) (.own 1004) (.own 1005) (.own 1006) (.own 1007)))) :: sndB s 1001 1002 1003 1004 1005 1006 ((1007,.live (.cells 145 [.own 1008])) :: (1008,roK a) :: L)
abbrev pE2 (s:Sender) (ps:List Packet):List (Nat × HSlot):=(1000,.live (.cells 139 (pmpC s (.own 1001) (.own 1002) (.own 1003) (.own 1004) (.own 1005) (.own 1006) (.own 1007)))) :: sndB s 1001 1002 1003 1004 1005 1006 [(1007,.dead),(1008,.dead),(1009,.dead),(0,rowPk ps)]
abbrev pR2 (s:Sender) (a b:List Chunk) (L:List (Nat × HSlot)):List (Nat × HSlot):=(1000,.live (.cells 139 (pmpC s (.own 1001) (.own 1002) (.own 1003) (.own 1004) (.own 1005) (.own 1006) (.own 1007)))) :: sndB s 1001 1002 1003 1004 1005 1006 ((1007,.live (.cells 145 [.own 1008,.own 1009])) :: (1008,roK a) :: (1009,roK b) :: L)
theorem zvy (s:Sender) (a:List Chunk) (hm:inI s.config.packet) (ha:a.length < 2 ^ 29) (hka:∀ c ∈ a,Okc c):FunOK Tryz.prog 97 [.ptr 1000 0] (lk .free (pH1 s a)) (.own 0) (lk .free (pE1 s (zbb s.config.packet 0 [a]))):=by
 generalize hT:zbb s.config.packet 0 [a]=T
 refine zal mixed Tryz.func97 (by decide) [1000,1001,1002,1003,1004,1005,1006,1007,1008] zba ?_
 conv=>whnf
 refine ⟨{ x:Nat × List Packet // x.1 <= 1 /\ x.2.length <= x.1 * 2 ^ 29 /\ x.2++zbb s.config.packet x.1 ([a].drop x.1)=T },
  fun | ⟨(i,acc),_⟩=>hsP [1000,1001,1002,1003,1004,1005,1006,1007,1008] 57 [(0,.ptr 1000 0),(3,.own 900),(12,.own 1007),(13,i64 1),(14,i64 i)] (pR1 s a [(900,rowPk acc)]),fun x=>1 - x.1.1,⟨(0,[]),by dsimp only;omega,by simp,hT⟩,?_,?_⟩
 . exact (hle_P (pK9 [(900,none)]))
 rintro ⟨⟨i,acc⟩,k1,k3,k2⟩
 dsimp only at k1 k2 k3
 refine zbh fun Q hQ=>?_
 have hi:i=0 \/ i=1:=by omega
 rcases hi with rfl | rfl
 case inl =>
  have hdr:zbb s.config.packet 0 ([a].drop 0)=packN s.config.packet 0 a.length a++zbb s.config.packet (0+1) ([a].drop (0+1)):=rfl
  rw [hdr] at k2
  conv=>whnf
  refine ⟨0,rfl,by decide,?_⟩;conv=>whnf
  refine ⟨{ x:(List Chunk × List Chunk) × Nat × List Packet // a=x.1.1++x.1.2 /\ x.1.2.length <= x.2.1 /\ x.2.2.length+x.1.2.length <= (0+1) * 2 ^ 29 /\ x.2.2++(packN s.config.packet 0 x.2.1 x.1.2++zbb s.config.packet (0+1) ([a].drop (0+1)))=T },
   fun | ⟨((A,B),n,acc),_⟩=>hsP [1000,1001,1002,1003,1004,1005,1006,1007,1008] 57 [(0,.ptr 1000 0),(3,.own 900),(4,i64 0),(5,wndK 1008 A B),(12,.own 1007),(13,i64 1),(14,i64 0)] (pR1 s a [(900,rowPk acc)]),fun x=>x.1.1.2.length,⟨(([],a),a.length,acc),rfl,by simp,by dsimp only;omega,k2⟩,?_,?_⟩
  . exact (hle_P (pK9 [(900,some 900)]))
  rintro ⟨⟨⟨A,B⟩,n,acc⟩,i1,i2,i4,i3⟩
  dsimp only at i1 i2 i3 i4
  refine zbh fun Q2 hQ2=>?_
  have hz:a.length=A.length+B.length:=by rw [i1];simp
  have hko:∀ c ∈ a,Okc c:=hka
  by_cases hB:B=[]
  case pos =>
   subst hB
   rw [zix,List.nil_append] at i3
   rw [List.length_nil] at hz
   cases A with
   | nil =>
    conv=>whnf
    have ha0:a=[]:=List.eq_nil_of_length_eq_zero (by simp at hz;simp [hz])
    refine zab ?_ ?_
    . simp [ha0]
    exact yy87
   | cons t A =>
    exact yy87
  case neg =>
  obtain ⟨r,r1,r2,r3⟩:=zqo (most:=s.config.packet) hB
  have hBl:=List.length_pos_iff.2 hB
  obtain ⟨n,rfl⟩:∃ n',n=n'+1:=⟨n - 1,by omega⟩
  have hN:packN s.config.packet 0 (n+1) B=pack1 s.config.packet 0 B++packN s.config.packet 0 n (B.drop r):=by rw [packN,if_neg hB,r1,Int.toNat_natCast]
  have hP:pack1 s.config.packet 0 B=if (Pck.pbytes (B.take r) s.config.packet).2=0 then [⟨0,false,(Pck.pbytes (B.take r) s.config.packet).1⟩] else []:=by rw [pack1,r1,Int.toNat_natCast]
  have hsz:Pck.Sized B:=⟨by omega,fun c hc=>hko c (by rw [i1];exact List.mem_append_right _ hc)⟩
  have hszr:Pck.Sized (B.take r):=hsz.take r
  rw [hN,List.append_assoc] at i3
  cases A with
  | nil =>
   have i1':B=a:=i1.symm
   subst i1'
   conv=>whnf
   refine sT ?_
   repeat (refine hcut.go ?_;conv=>whnf)
   (refine cL ?_;refine dL (Pck.zjn B s.config.packet hsz hm) ?_)
   refine zaa (c:=(0:Int) <= 0 /\ (0:Int) <= room1 s.config.packet B /\ room1 s.config.packet B <= ((B.map Chunk.row).length:Int)) ⟨by omega,by omega,by rw [List.length_map];omega⟩ ?_;conv=>whnf
   refine zbw ?_;conv=>whnf
   refine zlp (a:=[]) (b:=B.take r) (c:=B.drop r) (by simp) rfl (show (room1 s.config.packet B - 0).toNat=_ by rw [r1];simp;omega) ?_
   conv=>whnf
   refine ⟨_,Pck.zeh (B.take r) s.config.packet hszr,rfl,?_⟩;conv=>whnf
   refine sD ?_
   by_cases ho:(Pck.pbytes (B.take r) s.config.packet).2=0
   case pos =>
    rw [if_pos ho] at hP
    refine zac ?_ ?_
    . simpa using ho
    conv=>whnf
    refine zaa (c:=((acc.map Packet.row).length+1) * 40 <= 140737488355328) (by rw [List.length_map];omega) ?_;conv=>whnf
    repeat (refine hcut.go ?_;conv=>whnf)
    refine zaa (c:=(0:Int) <= room1 s.config.packet B /\ room1 s.config.packet B <= ((B.map Chunk.row).length:Int) /\ ((B.map Chunk.row).length:Int) <= ((B.map Chunk.row).length:Int)) ⟨by omega,by rw [List.length_map];omega,by omega⟩ ?_;conv=>whnf
    obtain ⟨x,B1,hx⟩:∃ x B1,B.take r=x :: B1:=by
     exact yy34
    have hxl:B1.length+1=r:=by have:=congrArg List.length hx;simp at this;omega
    refine hQ2 _ _ ?_;conv=>whnf
    exact ⟨⟨((x :: B1,B.drop r),n,acc++[⟨0,false,(Pck.pbytes (B.take r) s.config.packet).1⟩]),by rw [<- hx,List.take_append_drop],by simp;omega,by simp;omega,by rw [<- i3,hP];simp⟩,(hle_Y (pK9 [(900,some 51)]) (by repeat' (first | exact z0 | refine z1 ?_ | refine ⟨?_,?_⟩ | ((exact zfj (show B1.length+1=(room1 s.config.packet B).toNat by omega) (show (B.drop r).length=(((B.map Chunk.row).length:Int) - room1 s.config.packet B).toNat by simp;omega))) | ((exact zau (f:=Packet.row) rfl rfl)) | exact z2))),by simp;omega⟩
   case neg =>
    rw [if_neg ho] at hP
    refine zab ?_ ?_
    . simpa using ho
    conv=>whnf
    repeat (refine hcut.go ?_;conv=>whnf)
    refine zaa (c:=(0:Int) <= room1 s.config.packet B /\ room1 s.config.packet B <= ((B.map Chunk.row).length:Int) /\ ((B.map Chunk.row).length:Int) <= ((B.map Chunk.row).length:Int)) ⟨by omega,by rw [List.length_map];omega,by omega⟩ ?_;conv=>whnf
    obtain ⟨x,B1,hx⟩:∃ x B1,B.take r=x :: B1:=by
     exact yy34
    have hxl:B1.length+1=r:=by have:=congrArg List.length hx;simp at this;omega
    refine hQ2 _ _ ?_;conv=>whnf
    exact ⟨⟨((x :: B1,B.drop r),n,acc),by rw [<- hx,List.take_append_drop],by simp;omega,by simp;omega,by rw [<- i3,hP];simp⟩,(hle_Y (pK9 [(900,some 900)]) (by repeat' (first | exact z0 | refine z1 ?_ | refine ⟨?_,?_⟩ | ((exact zfj (show B1.length+1=(room1 s.config.packet B).toNat by omega) (show (B.drop r).length=(((B.map Chunk.row).length:Int) - room1 s.config.packet B).toNat by simp;omega))) | ((exact zau (f:=Packet.row) rfl rfl)) | exact z2))),by simp;omega⟩
  | cons t A =>
   have hal:(A.length:Int)+1=((t :: A).length:Nat):=by simp
   conv=>whnf
   refine sT ?_
   repeat (refine hcut.go ?_;conv=>whnf)
   refine zar ?_;conv=>whnf
   refine zlp (a:=t :: A) (b:=B) (c:=[]) (by rw [i1];simp) rfl rfl ?_
   conv=>whnf
   refine ⟨_,Pck.zjn B s.config.packet hsz hm,rfl,?_⟩;conv=>whnf
   repeat (refine hcut.go ?_;conv=>whnf)
   refine zaa (c:=(0:Int) <= room1 s.config.packet B /\ ((A.length+1:Nat):Int)+room1 s.config.packet B <= ((a.map Chunk.row).length:Int)) ⟨by omega,by rw [List.length_map,hz,List.length_cons];omega⟩ ?_;conv=>whnf
   refine zbw ?_;conv=>whnf
   refine zlp (a:=t :: A) (b:=B.take r) (c:=B.drop r) (by rw [i1];simp) rfl (show (room1 s.config.packet B).toNat=_ by rw [r1];simp;omega) ?_
   conv=>whnf
   refine ⟨_,Pck.zeh (B.take r) s.config.packet hszr,rfl,?_⟩;conv=>whnf
   refine sD ?_
   by_cases ho:(Pck.pbytes (B.take r) s.config.packet).2=0
   case pos =>
    rw [if_pos ho] at hP
    refine zac ?_ ?_
    . simpa using ho
    conv=>whnf
    refine zaa (c:=((acc.map Packet.row).length+1) * 40 <= 140737488355328) (by rw [List.length_map];omega) ?_;conv=>whnf
    repeat (refine hcut.go ?_;conv=>whnf)
    refine zaa (c:=(0:Int) <= room1 s.config.packet B /\ room1 s.config.packet B <= (B.length:Int) /\ ((A.length+1:Nat):Int)+(B.length:Int) <= ((a.map Chunk.row).length:Int)) ⟨by omega,by omega,by rw [List.length_map,hz,List.length_cons];omega⟩ ?_;conv=>whnf
    refine hQ2 _ _ ?_;conv=>whnf
    exact ⟨⟨((t :: (A++B.take r),B.drop r),n,acc++[⟨0,false,(Pck.pbytes (B.take r) s.config.packet).1⟩]),by rw [i1];simp,by simp;omega,by simp;omega,by rw [<- i3,hP];simp⟩,(hle_Y (pK9 [(900,some 51)]) (by repeat' (first | exact z0 | refine z1 ?_ | refine ⟨?_,?_⟩ | ((exact zfj (show (A++B.take r).length+1=A.length+1+(room1 s.config.packet B).toNat by simp;omega) (show (B.drop r).length=B.length - (room1 s.config.packet B).toNat by simp;omega))) | ((exact zau (f:=Packet.row) rfl rfl)) | exact z2))),by simp;omega⟩
   case neg =>
    rw [if_neg ho] at hP
    refine zab ?_ ?_
    . simpa using ho
    conv=>whnf
    repeat (refine hcut.go ?_;conv=>whnf)
    refine zaa (c:=(0:Int) <= room1 s.config.packet B /\ room1 s.config.packet B <= (B.length:Int) /\ ((A.length+1:Nat):Int)+(B.length:Int) <= ((a.map Chunk.row).length:Int)) ⟨by omega,by omega,by rw [List.length_map,hz,List.length_cons];omega⟩ ?_;conv=>whnf
    refine hQ2 _ _ ?_;conv=>whnf
    exact ⟨⟨((t :: (A++B.take r),B.drop r),n,acc),by rw [i1];simp,by simp;omega,by simp;omega,by rw [<- i3,hP];simp⟩,(hle_Y (pK9 [(900,some 900)]) (by repeat' (first | exact z0 | refine z1 ?_ | refine ⟨?_,?_⟩ | ((exact zfj (show (A++B.take r).length+1=A.length+1+(room1 s.config.packet B).toNat by simp;omega) (show (B.drop r).length=B.length - (room1 s.config.packet B).toNat by simp;omega))) | ((exact zau (f:=Packet.row) rfl rfl)) | exact z2))),by simp;omega⟩
 case inr =>
  have k2:acc=T:=by rw [<- k2];simp [zbb]
  subst k2
  conv=>whnf
  refine hQ _ _ ?_;conv=>whnf
  (exact zbn (pK9 [(0,some 900)]))
theorem zvz (s:Sender) (a b:List Chunk) (hm:inI s.config.packet) (ha:a.length < 2 ^ 29) (hb:b.length < 2 ^ 29) (hka:∀ c ∈ a,Okc c) (hkb:∀ c ∈ b,Okc c):FunOK Tryz.prog 97 [.ptr 1000 0] (lk .free (pH2 s a b)) (.own 0) (lk .free (pE2 s (zbb s.config.packet 0 [a,b]))):=by
 generalize hT:zbb s.config.packet 0 [a,b]=T
 refine zal mixed Tryz.func97 (by decide) [1000,1001,1002,1003,1004,1005,1006,1007,1008,1009] zba ?_
 conv=>whnf
 refine ⟨{ x:Nat × List Packet // x.1 <= 2 /\ x.2.length <= x.1 * 2 ^ 29 /\ x.2++zbb s.config.packet x.1 ([a,b].drop x.1)=T },
  fun | ⟨(i,acc),_⟩=>hsP [1000,1001,1002,1003,1004,1005,1006,1007,1008,1009] 57 [(0,.ptr 1000 0),(3,.own 900),(12,.own 1007),(13,i64 2),(14,i64 i)] (pR2 s a b [(900,rowPk acc)]),fun x=>2 - x.1.1,⟨(0,[]),by dsimp only;omega,by simp,hT⟩,?_,?_⟩
 . exact (hle_P (pK10 [(900,none)]))
 rintro ⟨⟨i,acc⟩,k1,k3,k2⟩
 dsimp only at k1 k2 k3
 refine zbh fun Q hQ=>?_
 have hi:i=0 \/ i=1 \/ i=2:=by omega
 rcases hi with rfl | rfl | rfl
 case inl =>
  have hdr:zbb s.config.packet 0 ([a,b].drop 0)=packN s.config.packet 0 a.length a++zbb s.config.packet (0+1) ([a,b].drop (0+1)):=rfl
  rw [hdr] at k2
  conv=>whnf
  refine ⟨0,rfl,by decide,?_⟩;conv=>whnf
  refine ⟨{ x:(List Chunk × List Chunk) × Nat × List Packet // a=x.1.1++x.1.2 /\ x.1.2.length <= x.2.1 /\ x.2.2.length+x.1.2.length <= (0+1) * 2 ^ 29 /\ x.2.2++(packN s.config.packet 0 x.2.1 x.1.2++zbb s.config.packet (0+1) ([a,b].drop (0+1)))=T },
   fun | ⟨((A,B),n,acc),_⟩=>hsP [1000,1001,1002,1003,1004,1005,1006,1007,1008,1009] 57 [(0,.ptr 1000 0),(3,.own 900),(4,i64 0),(5,wndK 1008 A B),(12,.own 1007),(13,i64 2),(14,i64 0)] (pR2 s a b [(900,rowPk acc)]),fun x=>x.1.1.2.length,⟨(([],a),a.length,acc),rfl,by simp,by dsimp only;omega,k2⟩,?_,?_⟩
  . exact (hle_P (pK10 [(900,some 900)]))
  rintro ⟨⟨⟨A,B⟩,n,acc⟩,i1,i2,i4,i3⟩
  dsimp only at i1 i2 i3 i4
  refine zbh fun Q2 hQ2=>?_
  have hz:a.length=A.length+B.length:=by rw [i1];simp
  have hko:∀ c ∈ a,Okc c:=hka
  by_cases hB:B=[]
  case pos =>
   subst hB
   rw [zix,List.nil_append] at i3
   rw [List.length_nil] at hz
   cases A with
   | nil =>
    conv=>whnf
    have ha0:a=[]:=List.eq_nil_of_length_eq_zero (by simp at hz;simp [hz])
    refine zab ?_ ?_
    . simp [ha0]
    exact yy85
   | cons t A =>
    exact yy85
  case neg =>
  obtain ⟨r,r1,r2,r3⟩:=zqo (most:=s.config.packet) hB
  have hBl:=List.length_pos_iff.2 hB
  obtain ⟨n,rfl⟩:∃ n',n=n'+1:=⟨n - 1,by omega⟩
  have hN:packN s.config.packet 0 (n+1) B=pack1 s.config.packet 0 B++packN s.config.packet 0 n (B.drop r):=by rw [packN,if_neg hB,r1,Int.toNat_natCast]
  have hP:pack1 s.config.packet 0 B=if (Pck.pbytes (B.take r) s.config.packet).2=0 then [⟨0,false,(Pck.pbytes (B.take r) s.config.packet).1⟩] else []:=by rw [pack1,r1,Int.toNat_natCast]
  have hsz:Pck.Sized B:=⟨by omega,fun c hc=>hko c (by rw [i1];exact List.mem_append_right _ hc)⟩
  have hszr:Pck.Sized (B.take r):=hsz.take r
  rw [hN,List.append_assoc] at i3
  cases A with
  | nil =>
   have i1':B=a:=i1.symm
   subst i1'
   conv=>whnf
   refine sT ?_
   repeat (refine hcut.go ?_;conv=>whnf)
   (refine cL ?_;refine dL (Pck.zjn B s.config.packet hsz hm) ?_)
   refine zaa (c:=(0:Int) <= 0 /\ (0:Int) <= room1 s.config.packet B /\ room1 s.config.packet B <= ((B.map Chunk.row).length:Int)) ⟨by omega,by omega,by rw [List.length_map];omega⟩ ?_;conv=>whnf
   refine zbw ?_;conv=>whnf
   refine zlp (a:=[]) (b:=B.take r) (c:=B.drop r) (by simp) rfl (show (room1 s.config.packet B - 0).toNat=_ by rw [r1];simp;omega) ?_
   conv=>whnf
   refine ⟨_,Pck.zeh (B.take r) s.config.packet hszr,rfl,?_⟩;conv=>whnf
   refine sD ?_
   by_cases ho:(Pck.pbytes (B.take r) s.config.packet).2=0
   case pos =>
    rw [if_pos ho] at hP
    refine zac ?_ ?_
    . simpa using ho
    conv=>whnf
    refine zaa (c:=((acc.map Packet.row).length+1) * 40 <= 140737488355328) (by rw [List.length_map];omega) ?_;conv=>whnf
    repeat (refine hcut.go ?_;conv=>whnf)
    refine zaa (c:=(0:Int) <= room1 s.config.packet B /\ room1 s.config.packet B <= ((B.map Chunk.row).length:Int) /\ ((B.map Chunk.row).length:Int) <= ((B.map Chunk.row).length:Int)) ⟨by omega,by rw [List.length_map];omega,by omega⟩ ?_;conv=>whnf
    obtain ⟨x,B1,hx⟩:∃ x B1,B.take r=x :: B1:=by
     exact yy34
    have hxl:B1.length+1=r:=by have:=congrArg List.length hx;simp at this;omega
    refine hQ2 _ _ ?_;conv=>whnf
    exact ⟨⟨((x :: B1,B.drop r),n,acc++[⟨0,false,(Pck.pbytes (B.take r) s.config.packet).1⟩]),by rw [<- hx,List.take_append_drop],by simp;omega,by simp;omega,by rw [<- i3,hP];simp⟩,(hle_Y (pK10 [(900,some 51)]) (by repeat' (first | exact z0 | refine z1 ?_ | refine ⟨?_,?_⟩ | ((exact zfj (show B1.length+1=(room1 s.config.packet B).toNat by omega) (show (B.drop r).length=(((B.map Chunk.row).length:Int) - room1 s.config.packet B).toNat by simp;omega))) | ((exact zau (f:=Packet.row) rfl rfl)) | exact z2))),by simp;omega⟩
   case neg =>
    exact yy19
  | cons t A =>
   have hal:(A.length:Int)+1=((t :: A).length:Nat):=by simp
   conv=>whnf
   refine sT ?_
   repeat (refine hcut.go ?_;conv=>whnf)
   refine zar ?_;conv=>whnf
   refine zlp (a:=t :: A) (b:=B) (c:=[]) (by rw [i1];simp) rfl rfl ?_
   conv=>whnf
   refine ⟨_,Pck.zjn B s.config.packet hsz hm,rfl,?_⟩;conv=>whnf
   repeat (refine hcut.go ?_;conv=>whnf)
   refine zaa (c:=(0:Int) <= room1 s.config.packet B /\ ((A.length+1:Nat):Int)+room1 s.config.packet B <= ((a.map Chunk.row).length:Int)) ⟨by omega,by rw [List.length_map,hz,List.length_cons];omega⟩ ?_;conv=>whnf
   refine zbw ?_;conv=>whnf
   refine zlp (a:=t :: A) (b:=B.take r) (c:=B.drop r) (by rw [i1];simp) rfl (show (room1 s.config.packet B).toNat=_ by rw [r1];simp;omega) ?_
   conv=>whnf
   refine ⟨_,Pck.zeh (B.take r) s.config.packet hszr,rfl,?_⟩;conv=>whnf
   refine sD ?_
   by_cases ho:(Pck.pbytes (B.take r) s.config.packet).2=0
   case pos =>
    rw [if_pos ho] at hP
    refine zac ?_ ?_
    . simpa using ho
    conv=>whnf
    refine zaa (c:=((acc.map Packet.row).length+1) * 40 <= 140737488355328) (by rw [List.length_map];omega) ?_;conv=>whnf
    repeat (refine hcut.go ?_;conv=>whnf)
    refine zaa (c:=(0:Int) <= room1 s.config.packet B /\ room1 s.config.packet B <= (B.length:Int) /\ ((A.length+1:Nat):Int)+(B.length:Int) <= ((a.map Chunk.row).length:Int)) ⟨by omega,by omega,by rw [List.length_map,hz,List.length_cons];omega⟩ ?_;conv=>whnf
    refine hQ2 _ _ ?_;conv=>whnf
    exact ⟨⟨((t :: (A++B.take r),B.drop r),n,acc++[⟨0,false,(Pck.pbytes (B.take r) s.config.packet).1⟩]),by rw [i1];simp,by simp;omega,by simp;omega,by rw [<- i3,hP];simp⟩,(hle_Y (pK10 [(900,some 51)]) (by repeat' (first | exact z0 | refine z1 ?_ | refine ⟨?_,?_⟩ | ((exact zfj (show (A++B.take r).length+1=A.length+1+(room1 s.config.packet B).toNat by simp;omega) (show (B.drop r).length=B.length - (room1 s.config.packet B).toNat by simp;omega))) | ((exact zau (f:=Packet.row) rfl rfl)) | exact z2))),by simp;omega⟩
   case neg =>
    rw [if_neg ho] at hP
    refine zab ?_ ?_
    . simpa using ho
    conv=>whnf
    repeat (refine hcut.go ?_;conv=>whnf)
    refine zaa (c:=(0:Int) <= room1 s.config.packet B /\ room1 s.config.packet B <= (B.length:Int) /\ ((A.length+1:Nat):Int)+(B.length:Int) <= ((a.map Chunk.row).length:Int)) ⟨by omega,by omega,by rw [List.length_map,hz,List.length_cons];omega⟩ ?_;conv=>whnf
    exact yy49
 case inr.inl =>
  have hdr:zbb s.config.packet 1 ([a,b].drop 1)=packN s.config.packet 1 b.length b++zbb s.config.packet (1+1) ([a,b].drop (1+1)):=rfl
  rw [hdr] at k2
  conv=>whnf
  refine ⟨1,rfl,by decide,?_⟩;conv=>whnf
  refine ⟨{ x:(List Chunk × List Chunk) × Nat × List Packet // b=x.1.1++x.1.2 /\ x.1.2.length <= x.2.1 /\ x.2.2.length+x.1.2.length <= (1+1) * 2 ^ 29 /\ x.2.2++(packN s.config.packet 1 x.2.1 x.1.2++zbb s.config.packet (1+1) ([a,b].drop (1+1)))=T },
   fun | ⟨((A,B),n,acc),_⟩=>hsP [1000,1001,1002,1003,1004,1005,1006,1007,1008,1009] 57 [(0,.ptr 1000 0),(3,.own 900),(4,i64 1),(5,wndK 1009 A B),(12,.own 1007),(13,i64 2),(14,i64 1)] (pR2 s a b [(900,rowPk acc)]),fun x=>x.1.1.2.length,⟨(([],b),b.length,acc),rfl,by simp,by dsimp only;omega,k2⟩,?_,?_⟩
  . exact (hle_P (pK10 [(900,some 900)]))
  rintro ⟨⟨⟨A,B⟩,n,acc⟩,i1,i2,i4,i3⟩
  dsimp only at i1 i2 i3 i4
  refine zbh fun Q2 hQ2=>?_
  have hz:b.length=A.length+B.length:=by rw [i1];simp
  have hko:∀ c ∈ b,Okc c:=hkb
  by_cases hB:B=[]
  case pos =>
   subst hB
   rw [zix,List.nil_append] at i3
   rw [List.length_nil] at hz
   cases A with
   | nil =>
    conv=>whnf
    have ha0:b=[]:=List.eq_nil_of_length_eq_zero (by simp at hz;simp [hz])
    refine zab ?_ ?_
    . simp [ha0]
    exact yy86
   | cons t A =>
    exact yy86
  case neg =>
  obtain ⟨r,r1,r2,r3⟩:=zqo (most:=s.config.packet) hB
  have hBl:=List.length_pos_iff.2 hB
  obtain ⟨n,rfl⟩:∃ n',n=n'+1:=⟨n - 1,by omega⟩
  have hN:packN s.config.packet 1 (n+1) B=pack1 s.config.packet 1 B++packN s.config.packet 1 n (B.drop r):=by rw [packN,if_neg hB,r1,Int.toNat_natCast]
  have hP:pack1 s.config.packet 1 B=if (Pck.pbytes (B.take r) s.config.packet).2=0 then [⟨1,false,(Pck.pbytes (B.take r) s.config.packet).1⟩] else []:=by rw [pack1,r1,Int.toNat_natCast]
  have hsz:Pck.Sized B:=⟨by omega,fun c hc=>hko c (by rw [i1];exact List.mem_append_right _ hc)⟩
  have hszr:Pck.Sized (B.take r):=hsz.take r
  rw [hN,List.append_assoc] at i3
  cases A with
  | nil =>
   have i1':B=b:=i1.symm
   subst i1'
   conv=>whnf
   refine sT ?_
   repeat (refine hcut.go ?_;conv=>whnf)
   (refine cL ?_;refine dL (Pck.zjn B s.config.packet hsz hm) ?_)
   refine zaa (c:=(0:Int) <= 0 /\ (0:Int) <= room1 s.config.packet B /\ room1 s.config.packet B <= ((B.map Chunk.row).length:Int)) ⟨by omega,by omega,by rw [List.length_map];omega⟩ ?_;conv=>whnf
   refine zbw ?_;conv=>whnf
   refine zlp (a:=[]) (b:=B.take r) (c:=B.drop r) (by simp) rfl (show (room1 s.config.packet B - 0).toNat=_ by rw [r1];simp;omega) ?_
   conv=>whnf
   refine ⟨_,Pck.zeh (B.take r) s.config.packet hszr,rfl,?_⟩;conv=>whnf
   refine sD ?_
   by_cases ho:(Pck.pbytes (B.take r) s.config.packet).2=0
   case pos =>
    rw [if_pos ho] at hP
    refine zac ?_ ?_
    . simpa using ho
    conv=>whnf
    refine zaa (c:=((acc.map Packet.row).length+1) * 40 <= 140737488355328) (by rw [List.length_map];omega) ?_;conv=>whnf
    repeat (refine hcut.go ?_;conv=>whnf)
    refine zaa (c:=(0:Int) <= room1 s.config.packet B /\ room1 s.config.packet B <= ((B.map Chunk.row).length:Int) /\ ((B.map Chunk.row).length:Int) <= ((B.map Chunk.row).length:Int)) ⟨by omega,by rw [List.length_map];omega,by omega⟩ ?_;conv=>whnf
    obtain ⟨x,B1,hx⟩:∃ x B1,B.take r=x :: B1:=by
     exact yy34
    have hxl:B1.length+1=r:=by have:=congrArg List.length hx;simp at this;omega
    refine hQ2 _ _ ?_;conv=>whnf
    exact ⟨⟨((x :: B1,B.drop r),n,acc++[⟨1,false,(Pck.pbytes (B.take r) s.config.packet).1⟩]),by rw [<- hx,List.take_append_drop],by simp;omega,by simp;omega,by rw [<- i3,hP];simp⟩,(hle_Y (pK10 [(900,some 51)]) (by repeat' (first | exact z0 | refine z1 ?_ | refine ⟨?_,?_⟩ | ((exact zfj (show B1.length+1=(room1 s.config.packet B).toNat by omega) (show (B.drop r).length=(((B.map Chunk.row).length:Int) - room1 s.config.packet B).toNat by simp;omega))) | ((exact zau (f:=Packet.row) rfl rfl)) | exact z2))),by simp;omega⟩
   case neg =>
    exact yy19
  | cons t A =>
   have hal:(A.length:Int)+1=((t :: A).length:Nat):=by simp
   conv=>whnf
   refine sT ?_
   repeat (refine hcut.go ?_;conv=>whnf)
   refine zar ?_;conv=>whnf
   refine zlp (a:=t :: A) (b:=B) (c:=[]) (by rw [i1];simp) rfl rfl ?_
   conv=>whnf
   refine ⟨_,Pck.zjn B s.config.packet hsz hm,rfl,?_⟩;conv=>whnf
   repeat (refine hcut.go ?_;conv=>whnf)
   refine zaa (c:=(0:Int) <= room1 s.config.packet B /\ ((A.length+1:Nat):Int)+room1 s.config.packet B <= ((b.map Chunk.row).length:Int)) ⟨by omega,by rw [List.length_map,hz,List.length_cons];omega⟩ ?_;conv=>whnf
   refine zbw ?_;conv=>whnf
   refine zlp (a:=t :: A) (b:=B.take r) (c:=B.drop r) (by rw [i1];simp) rfl (show (room1 s.config.packet B).toNat=_ by rw [r1];simp;omega) ?_
   conv=>whnf
   refine ⟨_,Pck.zeh (B.take r) s.config.packet hszr,rfl,?_⟩;conv=>whnf
   refine sD ?_
   by_cases ho:(Pck.pbytes (B.take r) s.config.packet).2=0
   case pos =>
    rw [if_pos ho] at hP
    refine zac ?_ ?_
    . simpa using ho
    conv=>whnf
    refine zaa (c:=((acc.map Packet.row).length+1) * 40 <= 140737488355328) (by rw [List.length_map];omega) ?_;conv=>whnf
    repeat (refine hcut.go ?_;conv=>whnf)
    refine zaa (c:=(0:Int) <= room1 s.config.packet B /\ room1 s.config.packet B <= (B.length:Int) /\ ((A.length+1:Nat):Int)+(B.length:Int) <= ((b.map Chunk.row).length:Int)) ⟨by omega,by omega,by rw [List.length_map,hz,List.length_cons];omega⟩ ?_;conv=>whnf
    refine hQ2 _ _ ?_;conv=>whnf
    exact ⟨⟨((t :: (A++B.take r),B.drop r),n,acc++[⟨1,false,(Pck.pbytes (B.take r) s.config.packet).1⟩]),by rw [i1];simp,by simp;omega,by simp;omega,by rw [<- i3,hP];simp⟩,(hle_Y (pK10 [(900,some 51)]) (by repeat' (first | exact z0 | refine z1 ?_ | refine ⟨?_,?_⟩ | ((exact zfj (show (A++B.take r).length+1=A.length+1+(room1 s.config.packet B).toNat by simp;omega) (show (B.drop r).length=B.length - (room1 s.config.packet B).toNat by simp;omega))) | ((exact zau (f:=Packet.row) rfl rfl)) | exact z2))),by simp;omega⟩
   case neg =>
    rw [if_neg ho] at hP
    refine zab ?_ ?_
    . simpa using ho
    conv=>whnf
    repeat (refine hcut.go ?_;conv=>whnf)
    refine zaa (c:=(0:Int) <= room1 s.config.packet B /\ room1 s.config.packet B <= (B.length:Int) /\ ((A.length+1:Nat):Int)+(B.length:Int) <= ((b.map Chunk.row).length:Int)) ⟨by omega,by omega,by rw [List.length_map,hz,List.length_cons];omega⟩ ?_;conv=>whnf
    exact yy49
 case inr.inr =>
  have k2:acc=T:=by rw [<- k2];simp [zbb]
  subst k2
  conv=>whnf
  refine hQ _ _ ?_;conv=>whnf
  (exact zbn (pK10 [(0,some 900)]))
end Snd
namespace Snd
open Ser
structure PF (j:Nat) (s:Sender):Prop where
 g:GFit s
 some:0 < s.paths.length
 part:1 <= s.config.part
 part2:s.config.part < 2 ^ 30
 msg:∀ m ∈ s.queue,zqm s m
 chunk:∀ x ∈ s.out,Okc x.chunk
 bytes:Sco.total s.out+j * 2 ^ 30 < 2 ^ 38
 few:s.out.length+s.queue.length < 2 ^ 27
theorem PF.nfit {j:Nat} {s:Sender} (h:PF j s):NFit s:=⟨h.g,h.some,h.part,h.part2,h.msg⟩
theorem zqm.same {s t:Sender} {m:Queued} (h:zqm s m) (h1:t.config=s.config) (h2:t.mids.length=s.mids.length) (h3:t.sched.had.length=s.sched.had.length):zqm t m:=by
 obtain ⟨⟨a1,a2,a3,a4,a5⟩,b1,b2,b3,b4⟩:=h
 have e:midAt t m=midAt s m:=by unfold midAt;rw [h1]
 exact ⟨⟨a1,a2,by rw [h1];exact a3,by rw [h1];exact a4,fun hm=>by rw [e,h2];exact a5 hm⟩,by rw [h3];exact b1,b2,b3,b4⟩
theorem ygd (id:Int):∀ (q:List Queued) (s:Sender),(∀ x ∈ s.out,Okc x.chunk) -> ∀ x ∈ (q.foldl (end1 id) s).out,Okc x.chunk
 | [],s,h,x,hx=>h x hx
 | m :: q,s,h,x,hx=>by
  refine ygd id q (end1 id s m) (fun y hy=>?_) x hx
  unfold end1 at hy
  split at hy
  . rcases List.mem_append.1 hy with hy | hy
    . exact h y hy
    . rw [List.mem_singleton] at hy;subst hy;exact ⟨by simp [endOf],by simp [endOf]⟩
  . exact h y hy
theorem ymk {j:Nat} {s:Sender} (h:PF j s) {id:Nat} (hid:id < s.fates.length):PF j (giveS s id):=by
 obtain ⟨r,h1,h2,h3⟩:=zhg s id
 have hs:=r.sum
 refine ⟨zvr h.g hid,by rw [r.paths];exact h.some,by rw [r.config];exact h.part,by rw [r.config];exact h.part2,fun m hm=>(h.msg m (h2 m hm)).same r.config (by rw [r.mids]) (by rw [r.had]),fun x hx=>?_,by rw [h1];exact h.bytes,by have:=h.few;omega⟩
 have hx':x ∈ ((s.queue.foldl (end1 id) { s with fates:=s.fates.set id 3 }).out.map (Sco.give id)):=hx
 obtain ⟨y,hy,rfl⟩:=List.mem_map.1 hx'
 have:=ygd id s.queue { s with fates:=s.fates.set id 3 } h.chunk y hy
 have e:(Sco.give id y).chunk=y.chunk:=by unfold Sco.give;split <;> rfl
 rw [e];exact this
theorem yub {j:Nat} {s:Sender} (h:PF j s) {m:Queued} (hm:0 <= m.id /\ m.id < s.fates.length):PF j (expQ s m):=by
 unfold expQ
 exact yy138
theorem yuc {j:Nat} {s:Sender} (h:PF j s) {m:Sent} (hm:0 <= m.id /\ m.id < s.fates.length):PF j (expX s m):=by
 unfold expX
 exact yy138
theorem yge {j:Nat}:∀ (q:List Queued) (s:Sender),PF j s -> (∀ m ∈ q,0 <= m.id /\ m.id < s.fates.length) -> PF j (q.foldl expQ s) /\ Rest s (q.foldl expQ s)
 | [],s,h,_=>⟨h,Rest.refl s⟩
 | m :: q,s,h,hq=>by
  obtain ⟨-,r⟩:=zvs h.g (hq m (by simp))
  obtain ⟨h1,r1⟩:=yge q (expQ s m) (yub h (hq m (by simp))) fun x hx=>by rw [r.fates];exact hq x (by simp [hx])
  exact ⟨h1,r.trans r1⟩
theorem ygf {j:Nat}:∀ (q:List Sent) (s:Sender),PF j s -> (∀ m ∈ q,0 <= m.id /\ m.id < s.fates.length) -> PF j (q.foldl expX s) /\ Rest s (q.foldl expX s)
 | [],s,h,_=>⟨h,Rest.refl s⟩
 | m :: q,s,h,hq=>by
  obtain ⟨-,r⟩:=zvt h.g (hq m (by simp))
  obtain ⟨h1,r1⟩:=ygf q (expX s m) (yuc h (hq m (by simp))) fun x hx=>by rw [r.fates];exact hq x (by simp [hx])
  exact ⟨h1,r.trans r1⟩
theorem zzo {j:Nat} {s:Sender} (h:PF j s):PF j (expire s) /\ Rest s (expire s):=by
 obtain ⟨h1,r1⟩:=yge s.queue s h h.g.qid
 obtain ⟨h2,r2⟩:=ygf (s.queue.foldl expQ s).out _ h1 h1.g.xid
 exact ⟨h2,r1.trans r2⟩
theorem zqp:∀ (l:List Sent) (cum:Int) (sk:List Skip),sk.length <= 8 -> (Sco.zdg cum sk l).2.length <= 8
 | [],cum,sk,h=>h
 | x :: l,cum,sk,h=>by
  simp only [Sco.zdg]
  split
  . exact h
  split
  . split
    . exact h
    . exact zqp l _ _ (by omega)
  . exact zqp l _ _ h
theorem yml (s:Sender):Okc (fwdC s):=⟨by simp [fwdC],by have:=zqp s.out s.cum [] (by simp);show (Sco.point s.out s.cum).2.length < _;unfold Sco.point;omega⟩
theorem PF.paths {j:Nat} {s:Sender} (h:PF j s) (ps:List Path) (f:Bool) (hp:ps.length=s.paths.length):PF j { s with paths:=ps,forward:=f }:=by
 obtain ⟨⟨⟨f1,f2,f3,f4,f5,f6,f7⟩,g2,g3,g4⟩,a1,a2,a3,a4,a5,a6,a7⟩:=h
 exact ⟨⟨⟨f1,f2,f3,by show ps.length < _;omega,f5,f6,f7⟩,g2,g3,g4⟩,by show 0 < ps.length;omega,a2,a3,fun m hm=>(a4 m hm).same rfl rfl rfl,a5,a6,a7⟩
theorem yvf {j:Nat} {s:Sender} (h:PF j s) {k:Nat} {w:Path}:PF j (fwdS s k w):=h.paths _ _ (by simp)
theorem yvg {j:Nat} {s:Sender} (h:PF j s) {i c:Nat} {x:Sent} {w:Path} (hx:s.out[i]?=some x):PF j (flyS s i c x w):=by
 obtain ⟨⟨⟨f1,f2,⟨b1,b2⟩,f4,f5,f6,f7⟩,g2,g3,g4⟩,a1,a2,a3,a4,a5,a6,a7⟩:=h
 have hi:=(List.getElem?_eq_some_iff.1 hx).1
 have hl:(flyS s i c x w).out.length=s.out.length:=by show (s.out.set i _).length=_;simp
 have hp:(flyS s i c x w).paths.length=s.paths.length:=by show (s.paths.set c _).length=_;simp
 have ht:Sco.total (flyS s i c x w).out=Sco.total s.out:=by
  show Sco.total (s.out.set i (flyX x c))=_
  have he:s.out[i]=x:=(List.getElem?_eq_some_iff.1 hx).2
  simp only [Sco.total,List.map_set]
  rw [show (flyX x c).chunk.data.length=(s.out.map fun s=>s.chunk.data.length)[i]'(by simpa using hi) by simp [flyX,he],List.set_getElem_self]
 have hmem:∀ y ∈ (flyS s i c x w).out,∃ z ∈ s.out,y.id=z.id /\ y.chunk=z.chunk:=fun y hy=>by
  rcases List.mem_or_eq_of_mem_set (show y ∈ s.out.set i (flyX x c) from hy) with hy | hy
  . exact ⟨y,hy,rfl,rfl⟩
  . exact ⟨x,List.mem_of_getElem? hx,by rw [hy];rfl,by rw [hy];rfl⟩
 refine ⟨⟨⟨f1,f2,⟨by rw [hl];exact b1,by rw [ht];exact b2⟩,by rw [hp];exact f4,f5,f6,f7⟩,by rw [hl];exact g2,g3,fun y hy=>?_⟩,by rw [hp];exact a1,a2,a3,fun m hm=>(a4 m hm).same rfl rfl rfl,fun y hy=>?_,by rw [ht];exact a6,by rw [hl];exact a7⟩
 . obtain ⟨z,hz,e,-⟩:=hmem y hy;rw [e];exact g4 z hz
 . obtain ⟨z,hz,-,e⟩:=hmem y hy;rw [e];exact a5 z hz
def nxS (s:Sender) (k c:Nat) (m:Queued) (w:Path):Sender:={ flyS (s2 s k m) s.out.length c (x0 s m) w with queue:=if ovr s m then s.queue.eraseIdx k else s.queue.set k (m2 s m) }
theorem yud {j:Nat} {s:Sender} (h:PF (j+1) s) {k c:Nat} {m:Queued} {w:Path} (hm:s.queue[k]?=some m) (ho:s.out.length < 60):PF j (nxS s k c m w):=by
 have hmf:=h.msg m (List.mem_of_getElem? hm)
 obtain ⟨⟨⟨f1,f2,⟨b1,b2⟩,f4,f5,f6,f7⟩,g2,g3,g4⟩,a1,a2,a3,a4,a5,a6,a7⟩:=h
 obtain ⟨n1,n2,n3⟩:=zmu (s:=s) (m:=m) a2 a3 hmf.sent hmf.left hmf.data
 have hk:=(List.getElem?_eq_some_iff.1 hm).1
 have hmid:(zcm s m).length=s.mids.length:=by
  unfold zcm setAt
  split
  . split
    . rfl
    . simp
  . rfl
 have hhad:(Sch.had s.sched { m with mid:=midOf s m } (many s m) (ovr s m)).had.length=s.sched.had.length:=by
  unfold Sch.had
  dsimp only
  split <;> simp
 have hout:(nxS s k c m w).out=(s.out++[x0 s m]).set s.out.length (flyX (x0 s m) c):=rfl
 have hout2:(nxS s k c m w).out=s.out++[flyX (x0 s m) c]:=by rw [hout,List.set_append_right _ _ (Nat.le_refl _),Nat.sub_self];rfl
 have hq:∀ y ∈ (nxS s k c m w).queue,y ∈ s.queue \/ (y=m2 s m /\ ovr s m=false):=fun y hy=>by
  have hy:y ∈ (if ovr s m then s.queue.eraseIdx k else s.queue.set k (m2 s m)):=hy
  cases ho:ovr s m with
  | true=>rw [ho,if_pos rfl] at hy;exact .inl (List.mem_of_mem_eraseIdx hy)
  | false =>
   rw [ho,if_neg (by decide)] at hy
   rcases List.mem_or_eq_of_mem_set hy with hy | hy
   . exact .inl hy
   . exact .inr ⟨hy,rfl⟩
 have hql:(nxS s k c m w).queue.length <= s.queue.length:=by
  show (if ovr s m then s.queue.eraseIdx k else s.queue.set k (m2 s m)).length <= _
  split
  . rw [List.length_eraseIdx];split <;> omega
  . simp
 have hp:(nxS s k c m w).paths.length=s.paths.length:=by show (s.paths.set c _).length=_;simp
 have hd:(x0 s m).chunk.data.length < 2 ^ 30:=by show ((m.message.data.drop _).take _).length < _;simp;omega
 have htot:Sco.total (nxS s k c m w).out=Sco.total s.out+(x0 s m).chunk.data.length:=by rw [hout2,Sco.zfi];simp [Sco.total,flyX]
 have hlen:(nxS s k c m w).out.length=s.out.length+1:=by rw [hout2];simp
 have hm2:ovr s m=false -> zqm s (m2 s m):=fun ho=>by
  have:m.sent+many s m ≠ m.message.data.length:=by
   intro e
   have:=ysm s m
   rw [ho,decide_eq_false_iff_not] at this
   exact this e
  obtain ⟨⟨c1,c2,c3,c4,c5⟩,d1,d2,d3,d4⟩:=hmf
  refine ⟨⟨c1,c2,c3,c4,fun hneg=>?_⟩,d1,by show 0 <= m.sent+many s m;omega,by show m.sent+many s m < m.message.data.length;omega,d4⟩
  have hmn:m.mid < 0:=by
   rcases Int.lt_or_le m.mid 0 with h0 | h0
   . exact h0
   . have:midOf s m=m.mid:=by rw [midOf,if_neg (by omega)]
     have hneg:midOf s m < 0:=hneg
     omega
  exact c5 hmn
 refine ⟨⟨⟨by omega,by rw [show (nxS s k c m w).sched.had.length=s.sched.had.length from hhad];exact f2,⟨by omega,by omega⟩,by omega,by rw [show (nxS s k c m w).mids.length=s.mids.length from hmid];exact f5,f6,fun y hy=>?_⟩,by omega,fun y hy=>?_,fun y hy=>?_⟩,by omega,a2,a3,fun y hy=>?_,fun y hy=>?_,by omega,by omega⟩
 . rcases hq y hy with hy | ⟨rfl,-⟩
   . exact f7 y hy
   . exact f7 m (List.mem_of_getElem? hm)
 . show 0 <= y.id /\ y.id < s.fates.length
   rcases hq y hy with hy | ⟨rfl,-⟩
   . exact g3 y hy
   . exact g3 m (List.mem_of_getElem? hm)
 . show 0 <= y.id /\ y.id < s.fates.length
   rw [hout2] at hy
   rcases List.mem_append.1 hy with hy | hy
   . exact g4 y hy
   . rw [List.mem_singleton] at hy;subst hy;exact g3 m (List.mem_of_getElem? hm)
 . have h0:zqm s y:=by
    rcases hq y hy with hy | ⟨rfl,ho⟩
    . exact a4 y hy
    . exact hm2 ho
   exact h0.same rfl hmid hhad
 . rw [hout2] at hy
   rcases List.mem_append.1 hy with hy | hy
   . exact a5 y hy
   . rw [List.mem_singleton] at hy;subst hy;exact ⟨by simp [flyX,x0],by simp [flyX,x0]⟩
theorem yqx {s:Sender} {o:List (List Chunk)} {j:Nat} (h:PF (j+1) s) (hc:choose s < o.length):(nx s o=(⟨s,o⟩,false) /\ next ⟨s,o⟩=none) \/ ∃ (k:Nat) (m:Queued) (w:Path) (l:List Chunk),s.queue[k]?=some m /\ s.out.length < 60 /\ o[choose s]?=some l /\
 nx s o=(⟨nxS s k (choose s) m w,o.set (choose s) (l++[(x0 s m).chunk])⟩,true) /\ next ⟨s,o⟩=some ⟨nxS s k (choose s) m w,o.set (choose s) (l++[(x0 s m).chunk])⟩:=by
 obtain ⟨-,hc2⟩:=zck h.some
 obtain ⟨w,hw⟩:∃ w,s.paths[choose s]?=some w:=⟨_,List.getElem?_eq_getElem hc2⟩
 obtain ⟨l,hl⟩:∃ l,o[choose s]?=some l:=⟨_,List.getElem?_eq_getElem hc⟩
 cases hn:next ⟨s,o⟩ with
 | none=>exact .inl ⟨by rw [nx,hn],rfl⟩
 | some q =>
  right
  have hn':=hn
  unfold next at hn'
  split at hn'
  . cases hn'
  rename_i c0
  have c0:=not_or.1 c0
  have c1:=not_or.1 c0.2
  cases hq:s.queue[(zcy s).toNat]? with
  | none=>simp only [hq] at hn';cases hn'
  | some m =>
   simp only [hq] at hn'
   split at hn'
   . cases hn'
   . have hn':=Option.some.inj hn'
     rw [zdx rfl hw hl] at hn'
     refine ⟨(zcy s).toNat,m,w,l,hq,by have h2:=c1.2;dsimp only at h2;omega,hl,?_,?_⟩
     . rw [nx,hn];simp only;rw [<- hn'];rfl
     . rw [<- hn'];rfl
end Snd
namespace Snd
open Ser
structure PO (g:Config) (j n k:Nat) (p:Pump):Prop where
 pf:PF j p.s
 paths:p.s.paths.length=n
 outs:p.out.length=n
 config:p.s.config=g
 most:∀ l ∈ p.out,l.length <= k /\ ∀ c ∈ l,Okc c
theorem PO.mono {g:Config} {j n k k':Nat} {p:Pump} (h:PO g j n k p) (hk:k <= k'):PO g j n k' p:=⟨h.pf,h.paths,h.outs,h.config,fun l hl=>⟨Nat.le_trans (h.most l hl).1 hk,(h.most l hl).2⟩⟩
theorem zqq {o:List (List Chunk)} {k c:Nat} {l:List Chunk} {x:Chunk} (h:∀ l ∈ o,l.length <= k /\ ∀ c ∈ l,Okc c) (hl:o[c]?=some l) (hx:Okc x):∀ m ∈ o.set c (l++[x]),m.length <= k+1 /\ ∀ c ∈ m,Okc c:=fun m hm=>by
 rcases List.mem_or_eq_of_mem_set hm with hm | rfl
 . obtain ⟨h1,h2⟩:=h m hm;exact ⟨by omega,h2⟩
 . obtain ⟨h1,h2⟩:=h l (List.mem_of_getElem? hl)
   refine ⟨by simp;omega,fun c hc=>?_⟩
   rcases List.mem_append.1 hc with hc | hc
   . exact h2 c hc
   . rw [List.mem_singleton] at hc;subst hc;exact hx
theorem ymm {g:Config} {j n k c:Nat} {p:Pump} (h:PO g j n k p) (hc:c < n) (i:Nat):PO g j n (k+1) (zcd c p i):=by
 obtain ⟨s,o⟩:=p
 obtain ⟨w,hw⟩:∃ w,s.paths[c]?=some w:=⟨_,List.getElem?_eq_getElem (by have:=h.paths;dsimp only at this;omega)⟩
 obtain ⟨l,hl⟩:∃ l,o[c]?=some l:=⟨_,List.getElem?_eq_getElem (by have:=h.outs;dsimp only at this;omega)⟩
 cases hx:s.out[i]? with
 | none=>simp only [zcd,hx];exact h.mono (by omega)
 | some x =>
  by_cases d:x.state=3 /\ w.flight < w.window
  . rw [ziw hx hw hl d]
    exact ⟨yvg h.pf hx,by show (s.paths.set c _).length=_;rw [List.length_set];exact h.paths,by show (o.set c _).length=_;rw [List.length_set];exact h.outs,h.config,zqq h.most hl (h.pf.chunk x (List.mem_of_getElem? hx))⟩
  . rw [zlo hx hw d];exact h.mono (by omega)
theorem zzp {g:Config} {j n c:Nat} (hc:c < n):∀ (L:List Nat) {k:Nat} {p:Pump},PO g j n k p -> PO g j n (k+L.length) (L.foldl (zcd c) p)
 | [],_,_,h=>h
 | i :: L,k,p,h=>(zzp hc L (ymm h hc i)).mono (by simp;omega)
theorem zwa {g:Config} {j n k:Nat} {p:Pump} (h:PO g j n k p):PO g j n (k+p.s.out.length) (again p):=by
 obtain ⟨-,hc2⟩:=zck h.pf.some
 have:=zzp (show choose p.s < n by rw [<- h.paths];exact hc2) (List.range p.s.out.length) h
 rw [List.length_range] at this
 exact this
theorem zjp {g:Config} {j n k:Nat} {p:Pump} (h:PO g j n k p):PO g j n (k+1) (forward p):=by
 obtain ⟨s,o⟩:=p
 obtain ⟨-,hc2⟩:=zck h.pf.some
 dsimp only at hc2
 obtain ⟨l,hl⟩:∃ l,o[choose s]?=some l:=⟨_,List.getElem?_eq_getElem (by have:=h.outs;have:=h.paths;dsimp only at *;omega)⟩
 obtain ⟨w,hw⟩:∃ w,s.paths[choose s]?=some w:=⟨_,List.getElem?_eq_getElem hc2⟩
 unfold forward
 split
 . exact h.mono (by omega)
 . simp only [setAt,hl,hw]
   exact ⟨yvf h.pf (k:=choose s) (w:=w),by show (s.paths.set _ _).length=_;rw [List.length_set];exact h.paths,by show (o.set _ _).length=_;rw [List.length_set];exact h.outs,h.config,zqq h.most hl (yml s)⟩
theorem zlq {j:Nat} {s:Sender} (h:PF j s):PO s.config j s.paths.length 0 ⟨expire s,List.replicate s.paths.length []⟩:=by
 obtain ⟨h1,r⟩:=zzo h
 exact ⟨h1,by rw [show (Pump.mk (expire s) _).s=expire s from rfl,r.paths],by simp,r.config,fun l hl=>by rw [List.eq_of_mem_replicate hl];simp⟩
theorem ycz {g:Config} {j n k:Nat} {p:Pump} (h:PO g (j+1) n k p):(nx p.s p.out=(p,false) /\ next p=none) \/ ∃ q,nx p.s p.out=(q,true) /\ next p=some q /\ p.s.out.length < 60 /\ q.s.out.length=p.s.out.length+1 /\ PO g j n (k+1) q:=by
 obtain ⟨s,o⟩:=p
 obtain ⟨-,hc2⟩:=zck h.pf.some
 have hp:=h.paths
 have ho:=h.outs
 dsimp only at hp ho hc2
 rcases yqx h.pf (show choose s < o.length by omega) with h1 | ⟨i,m,w,l,h1,h2,h3,h4,h5⟩
 . exact .inl h1
 . refine .inr ⟨_,h4,h5,h2,by simp [nxS,flyS,s2],yud h.pf h1 h2,by show (s.paths.set _ _).length=_;rw [List.length_set];exact hp,by show (o.set _ _).length=_;rw [List.length_set];exact ho,h.config,zqq h.most h3 ⟨by simp [x0],by simp [x0]⟩⟩
theorem zmv {p:Pump} (h:next p=none) (j:Nat):nexts j p=p:=by cases j <;> simp [nexts,h]
theorem ymn {p:Pump} (h:p.out.length=2):p.out=[nth0 p.out,nth1 p.out]:=by
 obtain ⟨s,o⟩:=p
 match o,h with
 | [a,b],_=>rfl
end Snd
namespace Snd
open Ser
theorem ymo {α:Type} {l:List α} (h:l.length=1):∃ a,l=[a]:=by
 match l,h with
 | [a],_=>exact ⟨a,rfl⟩
theorem ymp {α:Type} {l:List α} (h:l.length=2):∃ a b,l=[a,b]:=by
 match l,h with
 | [a,b],_=>exact ⟨a,b,rfl⟩
abbrev pmB1 (t:Sender) (a:List Chunk) (L:List (Nat × HSlot)):List (Nat × HSlot):=(2,.live (.cells 32 zeroS)) :: (16,.live (.cells 139 (pmpC t (.own 900) (.own 901) (.own 902) (.own 903) (.own 904) (.own 905) (.own 14)))) :: sndB t 900 901 902 903 904 905 ((14,.live (.cells 145 [.own 906])) :: (906,rowK a) :: L)
abbrev pmB2 (t:Sender) (a b:List Chunk) (L:List (Nat × HSlot)):List (Nat × HSlot):=(2,.live (.cells 32 zeroS)) :: (16,.live (.cells 139 (pmpC t (.own 900) (.own 901) (.own 902) (.own 903) (.own 904) (.own 905) (.own 14)))) :: sndB t 900 901 902 903 904 905 ((14,.live (.cells 145 [.own 906,.own 907])) :: (906,rowK a) :: (907,rowK b) :: L)
theorem zen {α β:Type} (f:α -> β) (A:List α) (p:α) (B:List β):(A++[p]).map f++B=A.map f++f p :: B:=by simp
theorem yda (s:Sender) (h:PF 62 s) (hm:inI s.config.packet) (h1p:s.paths.length=1) :
 FunOK Tryz.prog 39 [s.hv] zad (.tup [sndO (pump s).1 0 1 2 3 4 5,.own 6]) (lk .free (sndB (pump s).1 0 1 2 3 4 5 [(6,rowPk (pump s).2)])):=by
 have h0:=h.g.fit
 have e1:PO s.config 62 1 0 ⟨expire s,[[]]⟩:=by have:=zlq h;rw [h1p] at this;exact this
 have e2:=zjp e1
 have e3:=zwa e2
 have hF:nexts 61 (again (forward ⟨expire s,[[]]⟩))=pumpP s:=by rw [pumpP,h1p];rfl
 have hfew:=e2.pf.few
 rw [show pump s=(woken (pumpP s).s,zbb s.config.packet 0 (pumpP s).out) from rfl]
 generalize pumpP s=F at hF ⊢
 dsimp only
 refine zal mixed Tryz.func39 (by decide) [] (fun _=>.inl rfl) ?_
 conv=>whnf
 (refine zao [(0,20),(1,21),(2,22),(3,23),(4,24),(5,25)]  ?_;(conv=>whnf);refine dO (zci s h0) ?_)
 refine zaa ⟨by omega,rfl,by rw [List.length_map,h1p];decide⟩ ?_;conv=>whnf
 refine ⟨1,by rw [List.length_map,h1p],by decide,?_⟩;conv=>whnf
 refine sD ?_
 (refine zae [] [(1000,16),(1001,20),(1002,21),(1003,22),(1004,23),(1005,24),(1006,25),(1007,14)] [(0,930),(1,931),(2,932),(3,933),(4,934),(5,935)] ?_;(conv=>whnf);refine dG (zzh s h.g) ?_)
 (refine zae [] [(1000,16),(1001,930),(1002,931),(1003,932),(1004,933),(1005,934),(1006,935),(1007,14)] [(0,940)] ?_;(conv=>whnf);refine dG (zvu (expire s) (by have:=e1.pf.few;dsimp only at this;omega) e1.paths) ?_)
 generalize forward ⟨expire s,[[]]⟩=P1 at e2 e3 hF hfew ⊢
 obtain ⟨t1,o1⟩:=P1
 obtain ⟨a1,rfl⟩:=ymo e2.outs
 (refine zae [] [(1000,16),(1001,930),(1002,931),(1003,932),(1004,933),(1005,934),(1006,935),(1007,14),(1008,940)] [(0,950)] ?_;(conv=>whnf);refine dG (ycv t1 a1 (by dsimp only at hfew;omega) e2.paths (by have:=(e2.most a1 (by simp)).1;omega)) ?_)
 generalize again ⟨t1,[a1]⟩=P2 at e3 hF ⊢
 obtain ⟨t2,o2⟩:=P2
 obtain ⟨a2,rfl⟩:=ymo e3.outs
 dsimp only at hfew
 refine ⟨{ x:Nat × Sender × List Chunk // nexts x.1 ⟨x.2.1,[x.2.2]⟩=F /\ PO s.config (x.1+1) 1 (2 ^ 27+99 - x.1) ⟨x.2.1,[x.2.2]⟩ /\ 61 <= x.1+x.2.1.out.length /\ x.1 <= 61 },
  fun | ⟨(j,t,a),_⟩=>hs 106 [(2,.ptr 2 0),(3,hnil),(4,.ptr 16 0)] (pmB1 t a []),fun x=>x.1.1,⟨(61,t2,a2),hF,e3.mono (by dsimp only;omega),by dsimp only;omega,by dsimp only;omega⟩,?_,?_⟩
 . exact (hle_Q [(2,some 2),(16,some 16),(14,some 14),(900,some 930),(901,some 931),(902,some 932),(903,some 933),(904,some 934),(905,some 935),(906,some 950)])
 rintro ⟨⟨j,t,a⟩,k1,k2,k3,k4⟩
 dsimp only at k1 k2 k3 k4
 have km:=k2.most a (by simp)
 conv=>whnf
 have hn:=zmq t a k2.pf.nfit k2.paths (by omega)
 rcases ycz k2 with ⟨n1,n2⟩ | ⟨q,n1,n2,n3,n4,n5⟩
 case inr =>
  obtain ⟨u,o⟩:=q
  have n6:=n5.outs
  obtain ⟨b,rfl⟩:=ymo n6
  dsimp only at n1 n3 n4
  rw [n1] at hn
  (refine zae [] [(1000,16),(1001,900),(1002,901),(1003,902),(1004,903),(1005,904),(1006,905),(1007,14),(1008,906)] [(0,930),(1,931),(2,932),(3,933),(4,934),(5,935),(6,950)] ?_;(conv=>whnf);refine dG hn ?_)
  obtain ⟨j,rfl⟩:∃ j',j=j'+1:=⟨j - 1,by omega⟩
  rw [nexts,n2] at k1
  exact ⟨⟨(j,u,b),k1,n5.mono (by omega),by dsimp only;omega,by dsimp only;omega⟩,(hle_Q [(2,some 2),(16,some 16),(14,some 14),(900,some 930),(901,some 931),(902,some 932),(903,some 933),(904,some 934),(905,some 935),(906,some 950)]),by dsimp only;omega⟩
 case inl =>
  dsimp only at n1
  rw [n1] at hn
  rw [zmv n2] at k1
  subst k1
  (refine zae [] [(1000,16),(1001,900),(1002,901),(1003,902),(1004,903),(1005,904),(1006,905),(1007,14),(1008,906)] [(0,930),(1,931),(2,932),(3,933),(4,934),(5,935),(6,950)] ?_;(conv=>whnf);refine dG hn ?_)
  (refine zae [] [(1000,932)] [(0,960)] ?_;(conv=>whnf);refine dG (Sco.zdm t.out t.cum (by have:=k2.pf.few;dsimp only at this;omega)) ?_)
  refine sD ?_
  generalize hN:(Sco.point t.out t.cum).1=N
  have kfew:=k2.pf.few
  have kpl:=k2.paths
  dsimp only at kfew kpl
  refine ⟨{ x:List Path × List Path // t.paths=x.1++x.2 },fun | ⟨(A,B),_⟩=>hs 106 [(2,.ptr 2 0),(3,hnil),(4,.ptr 16 0),(5,i64 N),(44,i64 t.paths.length),(45,i64 A.length)] (pmB1 { t with paths:=A.map (wake t N)++B } a []),fun x=>x.1.2.length,⟨([],t.paths),rfl⟩,?_,?_⟩
  . exact (hle_Q [(2,some 2),(16,some 16),(14,some 14),(900,some 930),(901,some 931),(902,some 932),(903,some 933),(904,some 934),(905,some 935),(906,some 950)])
  rintro ⟨⟨A,B⟩,h⟩
  dsimp only at h
  conv=>whnf
  cases B with
  | cons p B =>
   have hz:=zat h
   refine sT ?_
   refine sOm ?_
   refine zah (a:=A.map (wake t N)) (b:=B) (s:=p) rfl (by simp) ?_;conv=>whnf
   by_cases d1:p.flight > 0
   case pos =>
    rw [show decide (p.flight > 0)=true from decide_eq_true d1]
    refine zac rfl ?_;conv=>whnf
    repeat (refine hcut.go ?_;conv=>whnf)
    refine zah (a:=A.map (wake t N)) (b:=B) (s:=p) rfl (by simp) ?_;conv=>whnf
    by_cases d2:p.alarm=0
    case pos =>
     rw [show (p.alarm == 0)=true from beq_iff_eq.2 d2]
     conv=>whnf
     refine zah (a:=A.map (wake t N)) (b:=B) (s:=p) rfl (by simp) ?_;conv=>whnf
     refine sR ?_
     refine zah (a:=A.map (wake t N)) (b:=B) (s:=p) rfl (by simp) ?_;conv=>whnf
     refine sD ?_
     refine sF ?_
     exact ⟨⟨(A++[p],B),zag h⟩,(hle_X ((2,some 2) :: ((16,some 16) :: ((14,some 14) :: (pJ7 [])))) (by repeat' (first | exact z0 | refine z1 ?_ | refine ⟨?_,?_⟩ | ((rw [zen,show wake t N p={ p with alarm:=W (t.clock+p.wait) } from if_pos ⟨d1,d2⟩];refine Eq.symm (zcw (a:=A.map (wake t N)) (b:=B) ?_ ?_);all_goals first | rfl | (simp;done))) | exact z2))),by simp⟩
    case neg =>
     rw [show (p.alarm == 0)=false from beq_eq_false_iff_ne.2 d2]
     conv=>whnf
     refine zah (a:=A.map (wake t N)) (b:=B) (s:=p) rfl (by simp) ?_;conv=>whnf
     by_cases d3:p.flight=0
     case pos =>
      rw [show (p.flight == 0)=true from beq_iff_eq.2 d3]
      refine zac rfl ?_;conv=>whnf
      repeat (refine hcut.go ?_;conv=>whnf)
      by_cases d4:N=t.cum
      case pos =>
       rw [show (N == t.cum)=true from beq_iff_eq.2 d4]
       conv=>whnf
       have d6:wake t N p={ p with alarm:=0 }:=by rw [wake,if_neg (fun h=>d2 h.2),if_pos ⟨d3,d4⟩]
       exact yy59
      case neg =>
       rw [show (N == t.cum)=false from beq_eq_false_iff_ne.2 d4]
       conv=>whnf
       have d6:wake t N p=p:=by rw [wake,if_neg (fun h=>d2 h.2),if_neg (fun h=>d4 h.2)]
       exact yy36
     case neg =>
      rw [show (p.flight == 0)=false from beq_eq_false_iff_ne.2 d3]
      conv=>whnf
      have d6:wake t N p=p:=by rw [wake,if_neg (fun h=>d2 h.2),if_neg (fun h=>d3 h.1)]
      exact yy36
   case neg =>
    rw [show decide (p.flight > 0)=false from decide_eq_false d1]
    conv=>whnf
    refine zah (a:=A.map (wake t N)) (b:=B) (s:=p) rfl (by simp) ?_;conv=>whnf
    by_cases d3:p.flight=0
    case pos =>
     rw [show (p.flight == 0)=true from beq_iff_eq.2 d3]
     refine zac rfl ?_;conv=>whnf
     repeat (refine hcut.go ?_;conv=>whnf)
     by_cases d4:N=t.cum
     case pos =>
      rw [show (N == t.cum)=true from beq_iff_eq.2 d4]
      conv=>whnf
      have d6:wake t N p={ p with alarm:=0 }:=by rw [wake,if_neg (fun h=>d1 h.1),if_pos ⟨d3,d4⟩]
      exact yy59
     case neg =>
      rw [show (N == t.cum)=false from beq_eq_false_iff_ne.2 d4]
      conv=>whnf
      have d6:wake t N p=p:=by rw [wake,if_neg (fun h=>d1 h.1),if_neg (fun h=>d4 h.2)]
      exact yy36
    case neg =>
     rw [show (p.flight == 0)=false from beq_eq_false_iff_ne.2 d3]
     conv=>whnf
     have d6:wake t N p=p:=by rw [wake,if_neg (fun h=>d1 h.1),if_neg (fun h=>d3 h.1)]
     exact yy36
  | nil =>
   have hz:=zaz h
   rw [List.append_nil] at h
   refine sN ?_
   (refine zae [] [(1000,16),(1001,900),(1002,901),(1003,902),(1004,903),(1005,904),(1006,905),(1007,14),(1008,906)] [(0,970)] ?_;(conv=>whnf);refine dG (zvy { t with paths:=A.map (wake t N)++[] } a (by show inI t.config.packet;rw [show t.config=s.config from k2.config];exact hm) (by omega) km.2) ?_)
   exact yy29
theorem ydb (s:Sender) (h:PF 62 s) (hm:inI s.config.packet) (h1p:s.paths.length=2) :
 FunOK Tryz.prog 39 [s.hv] zad (.tup [sndO (pump s).1 0 1 2 3 4 5,.own 6]) (lk .free (sndB (pump s).1 0 1 2 3 4 5 [(6,rowPk (pump s).2)])):=by
 have h0:=h.g.fit
 have e1:PO s.config 62 2 0 ⟨expire s,[[],[]]⟩:=by have:=zlq h;rw [h1p] at this;exact this
 have e2:=zjp e1
 have e3:=zwa e2
 have hF:nexts 61 (again (forward ⟨expire s,[[],[]]⟩))=pumpP s:=by rw [pumpP,h1p];rfl
 have hfew:=e2.pf.few
 rw [show pump s=(woken (pumpP s).s,zbb s.config.packet 0 (pumpP s).out) from rfl]
 generalize pumpP s=F at hF ⊢
 dsimp only
 refine zal mixed Tryz.func39 (by decide) [] (fun _=>.inl rfl) ?_
 conv=>whnf
 (refine zao [(0,20),(1,21),(2,22),(3,23),(4,24),(5,25)]  ?_;(conv=>whnf);refine dO (zci s h0) ?_)
 refine zaa ⟨by omega,rfl,by rw [List.length_map,h1p];decide⟩ ?_;conv=>whnf
 refine ⟨2,by rw [List.length_map,h1p],by decide,?_⟩;conv=>whnf
 refine sD ?_
 (refine zae [] [(1000,16),(1001,20),(1002,21),(1003,22),(1004,23),(1005,24),(1006,25),(1007,14)] [(0,930),(1,931),(2,932),(3,933),(4,934),(5,935)] ?_;(conv=>whnf);refine dG (zzi s h.g) ?_)
 (refine zae [] [(1000,16),(1001,930),(1002,931),(1003,932),(1004,933),(1005,934),(1006,935),(1007,14)] [(0,940),(1,941)] ?_;(conv=>whnf);refine dG (zvv (expire s) (by have:=e1.pf.few;dsimp only at this;omega) e1.paths) ?_)
 generalize forward ⟨expire s,[[],[]]⟩=P1 at e2 e3 hF hfew ⊢
 obtain ⟨t1,o1⟩:=P1
 obtain ⟨a1,b1,rfl⟩:=ymp e2.outs
 (refine zae [] [(1000,16),(1001,930),(1002,931),(1003,932),(1004,933),(1005,934),(1006,935),(1007,14),(1008,940),(1009,941)] [(0,950),(1,951)] ?_;(conv=>whnf);refine dG (ycw t1 a1 b1 (by dsimp only at hfew;omega) e2.paths (by have:=(e2.most a1 (by simp)).1;have:=(e2.most b1 (by simp)).1;omega)) ?_)
 generalize again ⟨t1,[a1,b1]⟩=P2 at e3 hF ⊢
 obtain ⟨t2,o2⟩:=P2
 obtain ⟨a2,b2,rfl⟩:=ymp e3.outs
 dsimp only at hfew
 refine ⟨{ x:Nat × Sender × List Chunk × List Chunk // nexts x.1 ⟨x.2.1,[x.2.2.1,x.2.2.2]⟩=F /\ PO s.config (x.1+1) 2 (2 ^ 27+99 - x.1) ⟨x.2.1,[x.2.2.1,x.2.2.2]⟩ /\ 61 <= x.1+x.2.1.out.length /\ x.1 <= 61 },
  fun | ⟨(j,t,a,b),_⟩=>hs 106 [(2,.ptr 2 0),(3,hnil),(4,.ptr 16 0)] (pmB2 t a b []),fun x=>x.1.1,⟨(61,t2,a2,b2),hF,e3.mono (by dsimp only;omega),by dsimp only;omega,by dsimp only;omega⟩,?_,?_⟩
 . exact (hle_Q [(2,some 2),(16,some 16),(14,some 14),(900,some 930),(901,some 931),(902,some 932),(903,some 933),(904,some 934),(905,some 935),(906,some 950),(907,some 951)])
 rintro ⟨⟨j,t,a,b⟩,k1,k2,k3,k4⟩
 dsimp only at k1 k2 k3 k4
 have km:=k2.most a (by simp)
 have kn:=k2.most b (by simp)
 conv=>whnf
 have hn:=yir t a b k2.pf.nfit k2.paths (by omega)
 rcases ycz k2 with ⟨n1,n2⟩ | ⟨q,n1,n2,n3,n4,n5⟩
 case inr =>
  obtain ⟨u,o⟩:=q
  have n6:=n5.outs
  obtain ⟨a',b',rfl⟩:=ymp n6
  dsimp only at n1 n3 n4
  rw [n1] at hn
  (refine zae [] [(1000,16),(1001,900),(1002,901),(1003,902),(1004,903),(1005,904),(1006,905),(1007,14),(1008,906),(1009,907)] [(0,930),(1,931),(2,932),(3,933),(4,934),(5,935),(6,950),(7,951)] ?_;(conv=>whnf);refine dG hn ?_)
  obtain ⟨j,rfl⟩:∃ j',j=j'+1:=⟨j - 1,by omega⟩
  rw [nexts,n2] at k1
  exact ⟨⟨(j,u,a',b'),k1,n5.mono (by omega),by dsimp only;omega,by dsimp only;omega⟩,(hle_Q [(2,some 2),(16,some 16),(14,some 14),(900,some 930),(901,some 931),(902,some 932),(903,some 933),(904,some 934),(905,some 935),(906,some 950),(907,some 951)]),by dsimp only;omega⟩
 case inl =>
  dsimp only at n1
  rw [n1] at hn
  rw [zmv n2] at k1
  subst k1
  (refine zae [] [(1000,16),(1001,900),(1002,901),(1003,902),(1004,903),(1005,904),(1006,905),(1007,14),(1008,906),(1009,907)] [(0,930),(1,931),(2,932),(3,933),(4,934),(5,935),(6,950),(7,951)] ?_;(conv=>whnf);refine dG hn ?_)
  (refine zae [] [(1000,932)] [(0,960)] ?_;(conv=>whnf);refine dG (Sco.zdm t.out t.cum (by have:=k2.pf.few;dsimp only at this;omega)) ?_)
  refine sD ?_
  generalize hN:(Sco.point t.out t.cum).1=N
  have kfew:=k2.pf.few
  have kpl:=k2.paths
  dsimp only at kfew kpl
  refine ⟨{ x:List Path × List Path // t.paths=x.1++x.2 },fun | ⟨(A,B),_⟩=>hs 106 [(2,.ptr 2 0),(3,hnil),(4,.ptr 16 0),(5,i64 N),(44,i64 t.paths.length),(45,i64 A.length)] (pmB2 { t with paths:=A.map (wake t N)++B } a b []),fun x=>x.1.2.length,⟨([],t.paths),rfl⟩,?_,?_⟩
  . exact (hle_Q [(2,some 2),(16,some 16),(14,some 14),(900,some 930),(901,some 931),(902,some 932),(903,some 933),(904,some 934),(905,some 935),(906,some 950),(907,some 951)])
  rintro ⟨⟨A,B⟩,h⟩
  dsimp only at h
  conv=>whnf
  cases B with
  | cons p B =>
   have hz:=zat h
   refine sT ?_
   refine sOm ?_
   refine zah (a:=A.map (wake t N)) (b:=B) (s:=p) rfl (by simp) ?_;conv=>whnf
   by_cases d1:p.flight > 0
   case pos =>
    rw [show decide (p.flight > 0)=true from decide_eq_true d1]
    refine zac rfl ?_;conv=>whnf
    repeat (refine hcut.go ?_;conv=>whnf)
    refine zah (a:=A.map (wake t N)) (b:=B) (s:=p) rfl (by simp) ?_;conv=>whnf
    by_cases d2:p.alarm=0
    case pos =>
     rw [show (p.alarm == 0)=true from beq_iff_eq.2 d2]
     conv=>whnf
     refine zah (a:=A.map (wake t N)) (b:=B) (s:=p) rfl (by simp) ?_;conv=>whnf
     refine sR ?_
     refine zah (a:=A.map (wake t N)) (b:=B) (s:=p) rfl (by simp) ?_;conv=>whnf
     refine sD ?_
     refine sF ?_
     exact ⟨⟨(A++[p],B),zag h⟩,(hle_X ((2,some 2) :: ((16,some 16) :: ((14,some 14) :: (pJ8 [])))) (by repeat' (first | exact z0 | refine z1 ?_ | refine ⟨?_,?_⟩ | ((rw [zen,show wake t N p={ p with alarm:=W (t.clock+p.wait) } from if_pos ⟨d1,d2⟩];refine Eq.symm (zcw (a:=A.map (wake t N)) (b:=B) ?_ ?_);all_goals first | rfl | (simp;done))) | exact z2))),by simp⟩
    case neg =>
     rw [show (p.alarm == 0)=false from beq_eq_false_iff_ne.2 d2]
     conv=>whnf
     refine zah (a:=A.map (wake t N)) (b:=B) (s:=p) rfl (by simp) ?_;conv=>whnf
     by_cases d3:p.flight=0
     case pos =>
      rw [show (p.flight == 0)=true from beq_iff_eq.2 d3]
      refine zac rfl ?_;conv=>whnf
      repeat (refine hcut.go ?_;conv=>whnf)
      by_cases d4:N=t.cum
      case pos =>
       rw [show (N == t.cum)=true from beq_iff_eq.2 d4]
       conv=>whnf
       have d6:wake t N p={ p with alarm:=0 }:=by rw [wake,if_neg (fun h=>d2 h.2),if_pos ⟨d3,d4⟩]
       exact yy60
      case neg =>
       rw [show (N == t.cum)=false from beq_eq_false_iff_ne.2 d4]
       conv=>whnf
       have d6:wake t N p=p:=by rw [wake,if_neg (fun h=>d2 h.2),if_neg (fun h=>d4 h.2)]
       exact yy37
     case neg =>
      rw [show (p.flight == 0)=false from beq_eq_false_iff_ne.2 d3]
      conv=>whnf
      have d6:wake t N p=p:=by rw [wake,if_neg (fun h=>d2 h.2),if_neg (fun h=>d3 h.1)]
      exact yy37
   case neg =>
    rw [show decide (p.flight > 0)=false from decide_eq_false d1]
    conv=>whnf
    refine zah (a:=A.map (wake t N)) (b:=B) (s:=p) rfl (by simp) ?_;conv=>whnf
    by_cases d3:p.flight=0
    case pos =>
     rw [show (p.flight == 0)=true from beq_iff_eq.2 d3]
     refine zac rfl ?_;conv=>whnf
     repeat (refine hcut.go ?_;conv=>whnf)
     by_cases d4:N=t.cum
     case pos =>
      rw [show (N == t.cum)=true from beq_iff_eq.2 d4]
      conv=>whnf
      have d6:wake t N p={ p with alarm:=0 }:=by rw [wake,if_neg (fun h=>d1 h.1),if_pos ⟨d3,d4⟩]
      exact yy60
     case neg =>
      rw [show (N == t.cum)=false from beq_eq_false_iff_ne.2 d4]
      conv=>whnf
      have d6:wake t N p=p:=by rw [wake,if_neg (fun h=>d1 h.1),if_neg (fun h=>d4 h.2)]
      exact yy37
    case neg =>
     rw [show (p.flight == 0)=false from beq_eq_false_iff_ne.2 d3]
     conv=>whnf
     have d6:wake t N p=p:=by rw [wake,if_neg (fun h=>d1 h.1),if_neg (fun h=>d3 h.1)]
     exact yy37
  | nil =>
   have hz:=zaz h
   rw [List.append_nil] at h
   refine sN ?_
   (refine zae [] [(1000,16),(1001,900),(1002,901),(1003,902),(1004,903),(1005,904),(1006,905),(1007,14),(1008,906),(1009,907)] [(0,970)] ?_;(conv=>whnf);refine dG (zvz { t with paths:=A.map (wake t N)++[] } a b (by show inI t.config.packet;rw [show t.config=s.config from k2.config];exact hm) (by omega) (by omega) km.2 kn.2) ?_)
   exact yy29
end Snd
namespace Snd
open Ser
theorem ziy (s:Sender) (h:PF 62 s) (hm:inI s.config.packet) (hp:s.paths.length=1 \/ s.paths.length=2) :
 FunOK Tryz.prog 39 [s.hv] zad (.tup [(pump s).1.hv,.p (.sl 3 ((pump s).2.map Packet.row))]) zad:=by
 rcases hp with hp | hp
 . refine zbt Tryz.func39 (yda s h hm hp) ?_
   generalize pump s=d
   conv=>whnf
   rfl
 . refine zbt Tryz.func39 (ydb s h hm hp) ?_
   generalize pump s=d
   conv=>whnf
   rfl
theorem zqr (s:Sender) (hs:Fit s):FunOK Tryz.prog 33 [s.hv] zad s.hv zad:=by
 refine zbt Tryz.func33 (zci s hs) ?_
 conv=>whnf
 rfl
theorem ymq (s:Sender):FunOK Tryz.prog 38 [s.hv] zad (hbool (calm s)) zad:=by
 refine zai mixed Tryz.func38 (by decide) ?_
 conv=>whnf
 (repeat' (first | (refine zbp ?_;conv=>whnf) | (refine zaa ?_ ?_;(first | kernel_rfl | decide);conv=>whnf) | (refine zap ?_ ?_;kernel_rfl;conv=>whnf) | (refine hcut.go ?_;conv=>whnf) | (refine zaf (fun h=>?_) (fun h=>?_) <;> conv=>whnf)))
 all_goals try simp only [Bool.not_eq_true',Bool.not_eq_false',beq_iff_eq,beq_eq_false_iff_ne,decide_eq_true_eq,decide_eq_false_iff_not,List.length_map] at *
 . have h':s.queue.length=0:=by omega
   show hbool _=hbool _
   refine congrArg hbool ?_
   rw [Bool.eq_iff_iff];simp only [calm,h',beq_iff_eq,Bool.and_eq_true,decide_eq_true_eq,true_and,decide_true];omega
 . have h':s.queue.length ≠ 0:=by omega
   show hbool _=hbool _
   refine congrArg hbool ?_
   rw [calm,decide_eq_false h',Bool.false_and]
def wrgS (c:Config):Int :=
 if c.streams < 1 \/ c.streams > 4 \/ c.paths < 1 \/ c.paths > 2 \/ c.part < 1 \/ c.part > 16 \/ c.packet < 40 \/ c.packet > 120 \/ c.waiting < 1 \/ c.waiting > 12 \/ c.first < 0 \/ c.first >= 65536 then 3 else
 if (c).turns < 1 \/ (c).turns > 5 then 1 else 0
end Snd
namespace Snd
open Ser
def sendR (s:Sender) (m:Message):Sender × Int × Int:=if zdl s m=0 then (sendS s m,(s.fates.length:Int),0) else (noS,0,zdl s m)
theorem zgo {s:Sender} {m:Message} {e:Int} (h:zdl s m=e) (he:e ≠ 0):sendR s m=(noS,0,e):=by rw [sendR,h,if_neg he]
theorem zlr {s:Sender} {m:Message} (h:zdl s m=0):sendR s m=(sendS s m,(s.fates.length:Int),0):=by rw [sendR,if_pos h]
theorem yis (s:Sender) (m:Message) (hs:Fit s) (hd:m.data.length < 2 ^ 38) :
 FunOK Tryz.prog 31 [s.hv,m.hv] zad (.tup [sndO (sendR s m).1 0 1 2 3 4 5,i64 (sendR s m).2.1,i64 (sendR s m).2.2]) (lk .free (sndB (sendR s m).1 0 1 2 3 4 5 [])):=by
 have hs':=hs
 obtain ⟨h1,h2,h3,h4,h5,h6,h7⟩:=hs
 refine zal mixed Tryz.func31 (by decide) [] (fun _=>.inl rfl) ?_
 conv=>whnf
 (repeat' (first | (refine zbp ?_;conv=>whnf) | (refine zaa ?_ ?_;(first | kernel_rfl | decide);conv=>whnf) | (refine zap ?_ ?_;kernel_rfl;conv=>whnf) | (refine hcut.go ?_;conv=>whnf) | (refine zaf (fun h=>?_) (fun h=>?_) <;> conv=>whnf)))
 all_goals try simp only [Bool.not_eq_true',Bool.not_eq_false',beq_iff_eq,beq_eq_false_iff_ne,decide_eq_true_eq,decide_eq_false_iff_not,List.length_map] at *
 all_goals first
  | (rw [zgo (e:=3) (by simp only [zdl];(repeat' split) <;> first | rfl | omega) (by decide)];exact zak [(0,none),(1,none),(2,none),(3,none),(4,none),(5,none)] rfl rfl trivial rfl rfl ⟨⟨rfl,.inr ⟨rfl,rfl⟩⟩,⟨rfl,.inr ⟨rfl,rfl⟩⟩,⟨rfl,.inr ⟨rfl,rfl⟩⟩,⟨rfl,.inr ⟨rfl,rfl⟩⟩,⟨rfl,.inr ⟨rfl,rfl⟩⟩,⟨rfl,.inr ⟨rfl,rfl⟩⟩,trivial⟩)
  | (rw [zgo (e:=4) (by simp only [zdl];(repeat' split) <;> first | rfl | omega) (by decide)];exact zak [(0,none),(1,none),(2,none),(3,none),(4,none),(5,none)] rfl rfl trivial rfl rfl ⟨⟨rfl,.inr ⟨rfl,rfl⟩⟩,⟨rfl,.inr ⟨rfl,rfl⟩⟩,⟨rfl,.inr ⟨rfl,rfl⟩⟩,⟨rfl,.inr ⟨rfl,rfl⟩⟩,⟨rfl,.inr ⟨rfl,rfl⟩⟩,⟨rfl,.inr ⟨rfl,rfl⟩⟩,trivial⟩)
  | (rw [zgo (e:=7) (by simp only [zdl];(repeat' split) <;> first | rfl | omega) (by decide)];exact zak [(0,none),(1,none),(2,none),(3,none),(4,none),(5,none)] rfl rfl trivial rfl rfl ⟨⟨rfl,.inr ⟨rfl,rfl⟩⟩,⟨rfl,.inr ⟨rfl,rfl⟩⟩,⟨rfl,.inr ⟨rfl,rfl⟩⟩,⟨rfl,.inr ⟨rfl,rfl⟩⟩,⟨rfl,.inr ⟨rfl,rfl⟩⟩,⟨rfl,.inr ⟨rfl,rfl⟩⟩,trivial⟩)
  | rw [zlr (by simp only [zdl];(repeat' split) <;> first | rfl | omega)]
 (refine zao [(0,20),(1,21),(2,22),(3,23),(4,24),(5,25)]  ?_;(conv=>whnf);refine dO (zci s hs') ?_)
 (refine zao [(0,26)]  ?_;(conv=>whnf);refine dO (Cl.zcf m.data (by omega)) ?_)
 refine zaa (c:=((s.queue.map Queued.row).length+1) * 96 <= 140737488355328) (by simp;omega) ?_;conv=>whnf
 refine zaa (c:=((s.fates.map fun n=>[pi n]).length+1) * 8 <= 140737488355328) (by simp;omega) ?_;conv=>whnf
 refine zak [(0,some 80),(1,some 21),(2,some 22),(3,some 23),(4,some 24),(5,some 85)] rfl rfl trivial rfl (by rw [show (s.fates.length:Int)=((s.fates.map fun n=>[pi n]).length:Nat) by rw [List.length_map]];rfl) ⟨⟨rfl,.inl ⟨80,rfl,?_⟩⟩,⟨rfl,.inl ⟨21,rfl,rfl⟩⟩,⟨rfl,.inl ⟨22,rfl,rfl⟩⟩,⟨rfl,.inl ⟨23,rfl,rfl⟩⟩,⟨rfl,.inl ⟨24,rfl,rfl⟩⟩,⟨rfl,.inl ⟨85,rfl,?_⟩⟩,trivial⟩
 . exact zau (f:=Queued.row) rfl (by rw [List.length_map];rfl)
 . exact zau (f:=fun n:Int=>[pi n]) rfl rfl
theorem ymr (s:Sender) (m:Message) (hs:Fit s) (hd:m.data.length < 2 ^ 38) :
 FunOK Tryz.prog 31 [s.hv,m.hv] zad (.tup [(sendR s m).1.hv,i64 (sendR s m).2.1,i64 (sendR s m).2.2]) zad:=by
 refine zbt Tryz.func31 (yis s m hs hd) ?_
 generalize sendR s m=d
 conv=>whnf
 rfl
end Snd
namespace Snd
open Ser
theorem ztd {l:List Sent} (i:Int) (h:Sco.Sized l):Sco.Sized (l.map (Sco.late i)):=⟨by simpa using h.len,by
 have:Sco.total (l.map (Sco.late i))=Sco.total l:=by
  simp only [Sco.total,List.map_map];congr 1;apply List.map_congr_left;intro x _;simp only [Function.comp,Sco.late];split <;> rfl
 rw [this];exact h.bytes⟩
def lateS (part:Int) (s:Sender) (i:Nat) (p:Path):Sender:={ s with out:=s.out.map (Sco.late i),paths:=s.paths.set i (Paths.late p part) }
theorem zjq {part:Int} {s:Sender} {i:Nat} {p:Path} (hp:s.paths[i]?=some p) (h:p.alarm=0 \/ s.clock < p.alarm):late1 part s i=s:=by
 simp only [late1,hp];rw [if_pos h]
theorem ygg {part:Int} {s:Sender} {i:Nat} {p:Path} (hp:s.paths[i]?=some p) (h:¬ (p.alarm=0 \/ s.clock < p.alarm)):late1 part s i=if (Sco.point (lateS part s i p).out s.cum).1 > s.cum then { lateS part s i p with forward:=true } else lateS part s i p:=by
 simp only [late1,hp];rw [if_neg h];rfl
abbrev tkF (s t:Sender):List (Nat × HSlot):=(1,.live (.cells 32 (sndC s (Sch.qs s.queue) (ints s.sched.had) (Sco.sents s.out) (pths s.paths) (ints s.mids) (ints s.fates)))) :: (2,.live (.cells 32 zeroS)) :: (3,.live (.cells 32 (sndC t (.own 900) (.own 901) (.own 902) (.own 903) (.own 904) (.own 905)))) :: sndB t 900 901 902 903 904 905 []
theorem yit (s:Sender) (hs:Fit s):FunOK Tryz.prog 36 [s.hv] zad (sndO (tick s) 0 1 2 3 4 5) (lk .free (sndB (tick s) 0 1 2 3 4 5 [])):=by
 have hs':=hs
 obtain ⟨h1,h2,h3,h4,h5,h6,h7⟩:=hs
 have hT:(List.range s.paths.length).foldl (late1 s.config.part) { s with clock:=W (s.clock+1) }=tick s:=rfl
 generalize tick s=T at hT ⊢
 refine zal mixed Tryz.func36 (by decide) [] (fun _=>.inl rfl) ?_
 conv=>whnf
 (refine zao [(0,20),(1,21),(2,22),(3,23),(4,24),(5,25)]  ?_;(conv=>whnf);refine dO (zci s hs') ?_)
 refine sR ?_
 refine ⟨{ x:Nat × Sender // x.1 <= s.paths.length /\ (List.range x.1).foldl (late1 s.config.part) { s with clock:=W (s.clock+1) }=x.2 /\ Sco.Sized x.2.out /\ x.2.paths.length=s.paths.length },
  fun | ⟨(i,t),_⟩=>hs 61 [(1,.ptr 1 0),(2,.ptr 2 0),(3,.ptr 3 0),(15,.own 903),(16,i64 s.paths.length),(17,i64 i)] (tkF s t),fun x=>s.paths.length - x.1.1,⟨(0,{ s with clock:=W (s.clock+1) }),by dsimp only;omega,rfl,h3,rfl⟩,?_,?_⟩
 . exact (hle_Q [(1,some 1),(2,some 2),(3,some 3),(900,some 20),(901,some 21),(902,some 22),(903,some 23),(904,some 24),(905,some 25)])
 rintro ⟨⟨i,t⟩,k1,k2,k3,k4⟩
 dsimp only at k1 k2 k3 k4
 conv=>whnf
 by_cases hi:i < s.paths.length
 case neg =>
  have hin:i=s.paths.length:=by omega
  subst hin
  refine sN ?_
  rw [hT] at k2
  subst k2
  exact zak [(0,some 900),(1,some 901),(2,some 902),(3,some 903),(4,some 904),(5,some 905)] rfl rfl trivial rfl rfl ⟨⟨rfl,.inl ⟨900,rfl,rfl⟩⟩,⟨rfl,.inl ⟨901,rfl,rfl⟩⟩,⟨rfl,.inl ⟨902,rfl,rfl⟩⟩,⟨rfl,.inl ⟨903,rfl,rfl⟩⟩,⟨rfl,.inl ⟨904,rfl,rfl⟩⟩,⟨rfl,.inl ⟨905,rfl,rfl⟩⟩,trivial⟩
 case pos =>
  obtain ⟨p,hp⟩:∃ p,t.paths[i]?=some p:=⟨_,List.getElem?_eq_getElem (by omega)⟩
  have hst:=zfr (late1 s.config.part) { s with clock:=W (s.clock+1) } i
  rw [k2] at hst
  refine sT ?_
  refine sOm ?_
  refine zaj hp rfl ?_;conv=>whnf
  by_cases c1:p.alarm=0
  case pos =>
   rw [show (p.alarm == 0)=true from beq_iff_eq.2 c1]
   conv=>whnf
   refine sF ?_
   exact ⟨⟨(i+1,t),by dsimp only;omega,by rw [hst,zjq hp (.inl c1)],k3,k4⟩,(hle_X ((1,some 1) :: (2,some 2) :: (3,some 3) :: (pJ6 [])) (by repeat' (first | exact z0 | refine z1 ?_ | refine ⟨?_,?_⟩ | ((exact zaw om)) | exact z2))),by dsimp only;omega⟩
  case neg =>
   rw [show (p.alarm == 0)=false from beq_eq_false_iff_ne.2 c1]
   refine zab rfl ?_;conv=>whnf
   repeat (refine hcut.go ?_;conv=>whnf)
   by_cases c2:t.clock < p.alarm
   case pos =>
    rw [show decide (t.clock < p.alarm)=true from decide_eq_true c2]
    conv=>whnf
    refine sF ?_
    exact ⟨⟨(i+1,t),by dsimp only;omega,by rw [hst,zjq hp (.inr c2)],k3,k4⟩,(hle_X ((1,some 1) :: (2,some 2) :: (3,some 3) :: (pJ6 [])) (by repeat' (first | exact z0 | refine z1 ?_ | refine ⟨?_,?_⟩ | ((exact zaw om)) | exact z2))),by dsimp only;omega⟩
   case neg =>
    rw [show decide (t.clock < p.alarm)=false from decide_eq_false c2]
    conv=>whnf
    have hgo:=ygg (part:=s.config.part) hp (fun h=>h.elim c1 c2)
    (refine zao [(0,35)]  ?_;(conv=>whnf);refine dO (Sco.zpz t.out i k3) ?_)
    (refine cL ?_;refine dL (Paths.zpz p s.config.part) ?_)
    refine zaa ⟨by omega,by rw [List.length_map];omega⟩ ?_;conv=>whnf
    refine zaj hp rfl ?_;conv=>whnf
    refine sD ?_
    (refine zae [] [(1000,35)] [(0,51)] ?_;(conv=>whnf);refine dG (Sco.zdm (t.out.map (Sco.late i)) t.cum (by rw [List.length_map];exact k3.len)) ?_)
    have hsz:=ztd i k3
    by_cases c3:(Sco.point (t.out.map (Sco.late i)) t.cum).1 > t.cum
    case pos =>
     rw [if_pos (show (Sco.point (lateS s.config.part t i p).out t.cum).1 > t.cum from c3)] at hgo
     refine zac ?_ ?_
     . simpa using c3
     conv=>whnf
     refine sF ?_
     exact ⟨⟨(i+1,{ lateS s.config.part t i p with forward:=true }),by dsimp only;omega,by rw [hst,hgo],hsz,by show (t.paths.set i _).length=_;rw [List.length_set];exact k4⟩,(hle_X [(1,some 1),(2,some 2),(3,some 3),(900,some 900),(901,some 901),(902,some 35),(903,some 903),(904,some 904),(905,some 905)] (by repeat' (first | exact z0 | refine z1 ?_ | refine ⟨?_,?_⟩ | ((exact zaw om)) | ((exact (zdn rfl).symm)) | ((exact zdn rfl)) | exact z2))),by dsimp only;omega⟩
    case neg =>
     rw [if_neg (show ¬ (Sco.point (lateS s.config.part t i p).out t.cum).1 > t.cum from c3)] at hgo
     refine zab ?_ ?_
     . simpa using c3
     conv=>whnf
     refine sF ?_
     exact ⟨⟨(i+1,lateS s.config.part t i p),by dsimp only;omega,by rw [hst,hgo],hsz,by show (t.paths.set i _).length=_;rw [List.length_set];exact k4⟩,(hle_X [(1,some 1),(2,some 2),(3,some 3),(900,some 900),(901,some 901),(902,some 35),(903,some 903),(904,some 904),(905,some 905)] (by repeat' (first | exact z0 | refine z1 ?_ | refine ⟨?_,?_⟩ | ((exact zaw om)) | ((exact (zdn rfl).symm)) | ((exact zdn rfl)) | exact z2))),by dsimp only;omega⟩
theorem yms (s:Sender) (hs:Fit s):FunOK Tryz.prog 36 [s.hv] zad (tick s).hv zad:=by
 refine zbt Tryz.func36 (yit s hs) ?_
 generalize tick s=d
 conv=>whnf
 rfl
end Snd
namespace Snd
open Ser
def newP (c:Config):Sender × Int:=if wrgS c=0 then (newS c,0) else (noS,wrgS c)
end Snd
namespace Snd
open Ser
theorem zrt {g:FuncId} {c1:List PV} {p:Queued -> Bool} (hg:∀ m:Queued,FunOK Tryz.prog g [m.hv,.rp c1] zad (hbool (p m)) zad) (q:List Queued) (hb:q.length < 2 ^ 62) :
 FunOK Tryz.prog 158 [.p (.sl 10 (q.map Queued.row)),.clo g [.rp c1]] zad (i64 (zbl p 0 q)) zad:=by
 refine zai mixed Tryz.func158 (by decide) ?_
 conv=>whnf
 refine ⟨{ k:Nat // k <= q.length /\ zbl p k (q.drop k)=zbl p 0 q },fun | ⟨k,_⟩=>hs 19 [(0,.p (.sl 10 (q.map Queued.row))),(1,.clo g [.rp c1]),(7,i64 (q.map Queued.row).length),(8,i64 k)] [],fun k=>q.length - k.1,⟨0,by simp⟩,?_,?_⟩
 . exact (hle_Q [])
 . rintro ⟨k,hk,hi⟩
   exact yy5
theorem yiu {g:FuncId} {c1:List PV} {p:Queued -> Bool} (hg:∀ m:Queued,FunOK Tryz.prog g [m.hv,.rp c1] zad (hbool (p m)) zad) (q:List Queued) (hb:q.length < 2 ^ 62) :
 FunOK Tryz.prog 124 [.p (.sl 10 (q.map Queued.row)),.clo g [.rp c1]] zad (hbool (q.any p)) zad:=by
 refine zai mixed Tryz.func124 (by decide) ?_
 conv=>whnf
 (refine cL ?_;refine dL (zrt hg q hb) ?_)
 rw [zvf q 0]
theorem zzq {g:FuncId} {c1:List PV} {p:Sent -> Bool} (hg:∀ m:Sent,FunOK Tryz.prog g [m.hv,.rp c1] zad (hbool (p m)) zad) (q:List Sent) (hb:q.length < 2 ^ 62) :
 FunOK Tryz.prog 159 [.p (.sl 20 (q.map Sent.row)),.clo g [.rp c1]] zad (i64 (zbl p 0 q)) zad:=by
 refine zai mixed Tryz.func159 (by decide) ?_
 conv=>whnf
 refine ⟨{ k:Nat // k <= q.length /\ zbl p k (q.drop k)=zbl p 0 q },fun | ⟨k,_⟩=>hs 19 [(0,.p (.sl 20 (q.map Sent.row))),(1,.clo g [.rp c1]),(7,i64 (q.map Sent.row).length),(8,i64 k)] [],fun k=>q.length - k.1,⟨0,by simp⟩,?_,?_⟩
 . exact (hle_Q [])
 . rintro ⟨k,hk,hi⟩
   exact yy5
theorem yqy {g:FuncId} {c1:List PV} {p:Sent -> Bool} (hg:∀ m:Sent,FunOK Tryz.prog g [m.hv,.rp c1] zad (hbool (p m)) zad) (q:List Sent) (hb:q.length < 2 ^ 62) :
 FunOK Tryz.prog 126 [.p (.sl 20 (q.map Sent.row)),.clo g [.rp c1]] zad (hbool (q.any p)) zad:=by
 refine zai mixed Tryz.func126 (by decide) ?_
 conv=>whnf
 (refine cL ?_;refine dL (zzq hg q hb) ?_)
 rw [zvf q 0]
theorem ymt (id:Int) (m:Queued):FunOK Tryz.prog 125 [m.hv,.rp [pi id]] zad (hbool (decide (m.id=id))) zad:=by
 refine zai mixed Tryz.func125 (by decide) ?_
 conv=>whnf
 try rfl
theorem ymu (id:Int) (x:Sent):FunOK Tryz.prog 127 [x.hv,.rp [pi id]] zad (hbool (decide (x.id=id) && decide (x.state ≠ 2))) zad:=by
 refine zai mixed Tryz.func127 (by decide) ?_
 conv=>whnf
 (repeat' (first | (refine zbp ?_;conv=>whnf) | (refine zaa ?_ ?_;(first | kernel_rfl | decide);conv=>whnf) | (refine zap ?_ ?_;kernel_rfl;conv=>whnf) | (refine hcut.go ?_;conv=>whnf) | (refine zaf (fun h=>?_) (fun h=>?_) <;> conv=>whnf)))
 all_goals try simp only [Bool.not_eq_true',Bool.not_eq_false',beq_iff_eq,beq_eq_false_iff_ne,decide_eq_true_eq,decide_eq_false_iff_not] at *
 . show hbool _=hbool _
   refine congrArg hbool ?_
   rw [Bool.eq_iff_iff];simp [*]
 . show hbool _=hbool _
   refine congrArg hbool ?_
   rw [Bool.eq_iff_iff];simp [*]
theorem zwb {α β:Type} (f:Nat -> α -> β) (A:List α) (p:α) (B:List β):(A++[p]).mapIdx f++B=A.mapIdx f++f A.length p :: B:=by
 rw [List.mapIdx_concat];simp
theorem zcz (s:Sender)  (hs:Fit s):FunOK Tryz.prog 82 [.ptr 1000 0] (lk .free (pH0 s )) (.tup []) (lk .free (pD0 (settle s) )):=by
 obtain ⟨h1,h2,h3,h4,h5,h6,h7⟩:=hs
 refine zal mixed Tryz.func82 (by decide) [1000,1001,1002,1003,1004,1005,1006] zba ?_
 conv=>whnf
 refine ⟨{ x:List Int × List Int // s.fates=x.1++x.2 },fun | ⟨(A,B),_⟩=>hsP [1000,1001,1002,1003,1004,1005,1006] 41 [(0,.ptr 1000 0),(7,.own 1006),(8,i64 s.fates.length),(9,i64 A.length)] (pH0 { s with fates:=A.mapIdx (settled s)++B } ),fun x=>x.1.2.length,⟨([],s.fates),rfl⟩,?_,?_⟩
 . exact (hle_Y (pK7 []) (by repeat' (first | exact z0 | refine z1 ?_ | refine ⟨?_,?_⟩ | ((exact zaw om)) | exact z2)))
 rintro ⟨⟨A,B⟩,h⟩
 dsimp only at h
 conv=>whnf
 cases B with
 | cons f B =>
  have hz:=zat h
  refine sT ?_
  refine sOm ?_
  refine zah (f:=fun n:Int=>[pi n]) (a:=A.mapIdx (settled s)) (b:=B) (s:=f) rfl (by simp) ?_;conv=>whnf
  by_cases c1:f=1
  case neg =>
   rw [show (f == 1)=false from beq_eq_false_iff_ne.2 c1]
   conv=>whnf
   refine sF ?_
   exact ⟨⟨(A++[f],B),zag h⟩,(hle_Y (pK7 []) (by repeat' (first | exact z0 | refine z1 ?_ | refine ⟨?_,?_⟩ | ((exact zan (by rw [zwb,settled,if_neg (fun h=>c1 h.1)]))) | exact z2))),by simp⟩
  case pos =>
   rw [show (f == 1)=true from beq_iff_eq.2 c1]
   refine zac rfl ?_;conv=>whnf
   (refine cL ?_;refine dL (yiu (fun m=>ymt (A.length:Int) m) s.queue (by omega)) ?_)
   cases c2:(s.queue.any fun m=>decide (m.id=(A.length:Int))) with
   | true =>
    conv=>whnf
    try (refine zab rfl ?_;conv=>whnf)
    conv=>whnf
    refine sF ?_
    exact ⟨⟨(A++[f],B),zag h⟩,(hle_Y (pK7 []) (by repeat' (first | exact z0 | refine z1 ?_ | refine ⟨?_,?_⟩ | ((exact zan (by rw [zwb,settled,if_neg (fun h=>absurd (c2.symm.trans h.2.1) (by decide))]))) | exact z2))),by simp⟩
   | false =>
    conv=>whnf
    try (refine zac rfl ?_;conv=>whnf)
    repeat (refine hcut.go ?_;conv=>whnf)
    (refine cL ?_;refine dL (yqy (fun x=>ymu (A.length:Int) x) s.out (by have:=h3.len;omega)) ?_)
    cases c3:(s.out.any fun x=>decide (x.id=(A.length:Int)) && decide (x.state ≠ 2)) with
    | true =>
     conv=>whnf
     refine sF ?_
     exact ⟨⟨(A++[f],B),zag h⟩,(hle_Y (pK7 []) (by repeat' (first | exact z0 | refine z1 ?_ | refine ⟨?_,?_⟩ | ((exact zan (by rw [zwb,settled,if_neg (fun h=>absurd (c3.symm.trans h.2.2) (by decide))]))) | exact z2))),by simp⟩
    | false =>
     conv=>whnf
     refine sOm ?_
     refine zah (f:=fun n:Int=>[pi n]) (a:=A.mapIdx (settled s)) (b:=B) (s:=f) rfl (by simp) ?_;conv=>whnf
     refine sD ?_
     refine sF ?_
     exact ⟨⟨(A++[f],B),zag h⟩,(hle_Y (pK7 []) (by repeat' (first | exact z0 | refine z1 ?_ | refine ⟨?_,?_⟩ | ((rw [zwb,settled,if_pos ⟨c1,c2,c3⟩];refine Eq.symm (zcw (f:=fun n:Int=>[pi n]) (a:=A.mapIdx (settled s)) (b:=B) ?_ ?_);all_goals first | rfl | (simp;done))) | exact z2))),by simp⟩
 | nil =>
  have hz:=zaz h
  rw [List.append_nil] at h
  refine sN ?_
  (exact zby (pK7 [(0,some 1001),(1,some 1002),(2,some 1003),(3,some 1004),(4,some 1005),(5,some 1006)]) (by repeat' (first | exact z0 | refine z1 ?_ | refine ⟨?_,?_⟩ | ((exact zan (by rw [settle,h,List.append_nil]))) | exact z2)))
end Snd
end Go.HL
