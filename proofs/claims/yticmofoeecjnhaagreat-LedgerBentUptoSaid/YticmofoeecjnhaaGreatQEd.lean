/- Walks, contracts and laws of the law's functions: part 4. No condition. -/
import Derived.Test.YticmofoeecjnhaaGreatQEc
open Go.Proofs
set_option maxHeartbeats 32000000
set_option maxRecDepth 100000
set_option linter.unusedSimpArgs false
theorem yy77 {P:Prop} (h:P:=by
 refine zap mixed Tryz.func130 zz4 [1000,1001,1002,1003,1004,1005,1006,1007] zbq ?_;(conv=>whnf);by_cases c1:life>0
 . refine sT ?_
   refine sR ?_
   try refine sT ?_
   (exact zcx (pK8 []) zz16)
 . refine sN ?_
   try refine sN ?_
   (exact zcx (pK8 []) zz16)):P:=h
theorem yy110 {P:Prop} (h:P:=by
 (conv=>whnf);refine zao [(1000,some 1000),(0,some 7)] rfl rfl ⟨rfl,trivial⟩ rfl rfl ⟨⟨rfl,.inl ⟨1000,rfl,rfl⟩⟩,⟨rfl,.inl ⟨7,rfl,?_⟩⟩,trivial⟩
 rfl):P:=h
theorem yy120 {P:Prop} (h:P:=by
 refine zao [(1000,some 1000),(0,none)] rfl rfl ⟨rfl,trivial⟩ rfl rfl ⟨⟨rfl,.inl ⟨1000,rfl,rfl⟩⟩,⟨rfl,.inr ⟨rfl,hn c⟩⟩,trivial⟩):P:=h
theorem yy33 {P:Prop} (h:P:=by
 rintro ⟨⟨A,B⟩,h⟩;dsimp only at h;(conv=>whnf);cases B with
 | cons p B =>
  have hz:=zbe h;refine sT ?_
  (refine cL ?_;refine dL (Sco.zop s.out A.length h3) ?_)
  refine sOm ?_;refine zaj (a:=A.mapIdx (flP s.out)) (b:=B) (s:=p) rfl zz5 (zw ?_);refine sD ?_;refine sF ?_;exact ⟨⟨(A++[p],B),zag h⟩,(zcb (pK8 []) zz48),by simp⟩
 | nil =>
  have hz:=zbn h;rw [zy4] at h;refine sN ?_
  (exact zcx (pK8 [(0,some 1001),(1,some 1002),(2,some 1003),(3,some 1004),(4,some 1005),(5,some 1006)]) zz46)):P:=h
theorem yy13 {P:Prop} (h:P:=by
 have hz:=zbe k1;have zcq:(A++[m]).foldl (zez id) {s with fates:=s.fates.set id 3}=zez id (zkc s id o n) m:=by rw [zy58,k2];rfl
 refine sT ?_;refine zaa (by simp [zkc];omega) (zw ?_);refine zaj k1 rfl (zw ?_);by_cases c1:m.id=id
 case neg =>
  refine zab zz39 (zw ?_)
  repeat refine sG ?_
  refine sF ?_;rw [zez,zy0 (by intro h;exact c1 h.1)] at zcq;exact ⟨⟨((A++[m],B),o,n),zag k1,zcq,by simp;omega,k4⟩,(zdj (pK8 ((900,some 900)::[(3,some 3)]))),by simp⟩
 refine zac zz39 ?_;conv=>whnf
 by_cases c2:m.parts>0
 case neg =>
  refine zab zz29 (zw ?_)
  repeat refine sG ?_
  refine sF ?_;rw [zez,zy0 (by intro h;exact c2 h.2)] at zcq;exact ⟨⟨((A++[m],B),o,n),zag k1,zcq,by simp;omega,k4⟩,(zdj (pK8 ((900,some 900)::[(3,some 3)]))),by simp⟩
 refine zac zz29 ?_;conv=>whnf
 repeat refine sG ?_
 rw [zez,zy1 ⟨c1,c2⟩] at zcq
 (refine cL ?_;refine dL (zdk n) ?_)
 (refine cL ?_;refine dL (zdk m.mid) ?_)
 refine zaa (c:=((o.map zbo.row).length+1)*200<=140737488355328) zz6 (zw ?_);refine sD ?_;refine sR ?_;refine sF ?_;refine ⟨⟨((A++[m],B),o++[zpg n m],W (n+1)),zag k1,zcq,by simp;omega,by rw [Sco.zhq,k4];simp [Sco.total,zpg]⟩,(zcb (pK8 ((900,some 64)::[(3,some 3)])) zz67),by simp⟩):P:=h
theorem yy59 {P:Prop} (h:P:=by
 (exact zcx (pK8 [(0,some 910),(1,some 911),(2,some 912),(3,some 913),(4,some 914),(5,some 915)]) zz17)):P:=h
theorem yy66 {P:Prop} (h:P:=by
 refine sOm ?_;refine zam hv zz0 (zw ?_);refine zam hk rfl (zw ?_);refine sOm ?_;refine zam hv zz0 (zw ?_);refine sR ?_;refine sOm ?_;refine zam hv zz0 (zw ?_)
 repeat refine sG ?_
 refine zcg rfl zz3 (zw ?_);have hms2:(ziu s k m).mids=_:=hms;rw [hat] at hms2
 (exact zcx (pK9 []) zz19)):P:=h
theorem yy67 {P:Prop} (h:P:=by
 refine sOm ?_;refine zam hv zz0 (zw ?_);refine zam hk rfl (zw ?_);refine sOm ?_;refine zam hv zz0 (zw ?_);refine sR ?_;refine sOm ?_;refine zam hv zz0 (zw ?_)
 repeat refine sG ?_
 refine zcg rfl zz3 (zw ?_);have hms2:(ziu s k m).mids=_:=hms;rw [hat] at hms2
 (exact zcx (zhz []) zz19)):P:=h
theorem yy6 {P:Prop} (h:P:=by
 cases d3:old u.clock x.came x.life with
 | true =>
  (conv=>whnf);refine sD ?_
  repeat refine sG ?_
  (refine zae [] [(1000,1000),(1001,900),(1002,901),(1003,902),(1004,903),(1005,904),(1006,905),(1007,1007)] [(0,910),(1,911),(2,912),(3,913),(4,914),(5,915)] ?_;(conv=>whnf);refine dG pg ?_)
  refine sF ?_;refine hQ _ _ ?_;conv=>whnf
  rw [zhl,zy1 (by rw [hdue];simp [d1,d2,d3])] at zcq kn kr;exact ⟨⟨((A++[x],B),zfg u x.id),zag k1,zcq,kn,k4.trans kr⟩,(zdj (pK8 ((900,some 910)::(901,some 911)::(902,some 912)::(903,some 913)::(904,some 914)::(905,some 915)::[(34,some 34)]))),by simp⟩
 | false =>
 (conv=>whnf);by_cases d4:x.state=3
 case neg =>
  refine zab ?_ ?_
  . simpa using d4
  (conv=>whnf);refine sD ?_
  repeat refine sG ?_
  refine sF ?_;refine hQ _ _ ?_;conv=>whnf
  rw [zhl,zy0 (by rw [hdue];simp [d1,d2,d3,d4])] at zcq;exact ⟨⟨((A++[x],B),u),zag k1,zcq,k3,k4⟩,(zdj (pK8 (pJ6 [(34,some 34)]))),by simp⟩
 refine zac ?_ ?_
 . simpa using d4
 (conv=>whnf);by_cases d5:x.tries>0
 case neg =>
  refine zab ?_ ?_
  . simpa using d5
  (conv=>whnf);refine sD ?_
  repeat refine sG ?_
  refine sF ?_;refine hQ _ _ ?_;conv=>whnf
  rw [zhl,zy0 (by rw [hdue];simp [d1,d2,d3,d4,d5])] at zcq;exact ⟨⟨((A++[x],B),u),zag k1,zcq,k3,k4⟩,(zdj (pK8 (pJ6 [(34,some 34)]))),by simp⟩
 refine zac ?_ ?_
 . simpa using d5
 (conv=>whnf);refine sD ?_;by_cases d6:x.times>x.tries
 case neg =>
  refine zab ?_ ?_
  . simpa using d6
  conv=>whnf
  repeat refine sG ?_
  refine sF ?_;refine hQ _ _ ?_;conv=>whnf
  rw [zhl,zy0 (by rw [hdue];simp [d1,d2,d3,d4,d5,d6])] at zcq;exact ⟨⟨((A++[x],B),u),zag k1,zcq,k3,k4⟩,(zdj (pK8 (pJ6 [(34,some 34)]))),by simp⟩
 refine zac ?_ ?_
 . simpa using d6
 conv=>whnf
 repeat refine sG ?_
 (refine zae [] [(1000,1000),(1001,900),(1002,901),(1003,902),(1004,903),(1005,904),(1006,905),(1007,1007)] [(0,910),(1,911),(2,912),(3,913),(4,914),(5,915)] ?_;(conv=>whnf);refine dG pg ?_)
 refine sF ?_;refine hQ _ _ ?_;conv=>whnf
 rw [zhl,zy1 (by rw [hdue];simp [d1,d2,d3,d4,d5,d6])] at zcq kn kr;exact ⟨⟨((A++[x],B),zfg u x.id),zag k1,zcq,kn,k4.trans kr⟩,(zdj (pK8 ((900,some 910)::(901,some 911)::(902,some 912)::(903,some 913)::(904,some 914)::(905,some 915)::[(34,some 34)]))),by simp⟩):P:=h
theorem yy20 {P:Prop} (h:P:=by
 exact ⟨⟨((A++[x],B),u),zag k1,zcq,k3,k4⟩,(zdj (pK8 (pJ6 [(34,some 34)]))),by simp⟩):P:=h
theorem yy34 {P:Prop} (h:P:=by
 rw [<- hid] at pg;(conv=>whnf)
 repeat refine sG ?_
 (refine zae [] [(1000,1000),(1001,900),(1002,901),(1003,902),(1004,903),(1005,904),(1006,905),(1007,1007)] [(0,910),(1,911),(2,912),(3,913),(4,914),(5,915)] ?_;(conv=>whnf);refine dG pg ?_)
 refine sF ?_;refine hQ _ _ ?_;conv=>whnf
 exact ⟨⟨((A++[m],B),zfg t m.id),zag k1,zcq,kn,k4.trans kr⟩,(zdj (pK8 ((900,some 910)::(901,some 911)::(902,some 912)::(903,some 913)::(904,some 914)::(905,some 915)::[(11,some 11)]))),by simp⟩):P:=h
theorem yy84 {P:Prop} (h:P:=by
 have hz:=zbn k1;rw [zy4] at k1;rw [<- k1] at k2;refine sN ?_;refine hQ _ _ ?_;conv=>whnf
 have hu:u=E:=by rw [<- k2,hE2]
 rw [<- hu]
 (exact zci (pK8 [(0,some 900),(1,some 901),(2,some 902),(3,some 903),(4,some 904),(5,some 905)]))):P:=h
theorem yy94 {P:Prop} (h:P:=by
 rw [zlm,zy0 (by rw [ho];decide)] at zcq;(conv=>whnf)
 repeat refine sG ?_
 refine sF ?_;refine hQ _ _ ?_;conv=>whnf
 exact ⟨⟨((A++[m],B),t),zag k1,zcq,k3,k4⟩,(zdj (pK8 (pJ6 [(11,some 11)]))),by simp⟩):P:=h
theorem yy127 {P:Prop} (h:P:=by
 refine zab ?_ ?_
 . simp [c1]
 (conv=>whnf);refine zac ?_ ?_
 . simp [c2]
 conv=>whnf
 repeat refine sG ?_
 (exact zci (pK8 [(0,none),(1,none)]))):P:=h
theorem yy148 {P:Prop} (h:P:=by
 refine zac ?_ ?_
 . simp [c1]
 conv=>whnf
 repeat refine sG ?_
 (exact zci (pK8 [(0,none),(1,none)]))):P:=h
theorem yy74 {P:Prop} (h:P:=by
 refine zab ?_ ?_
 . simpa using d1
 conv=>whnf
 repeat refine sG ?_
 refine sF ?_;exact ⟨⟨(i+1,t,a',b'),by dsimp only;omega,by rw [hst,hno fun h=>d1 h.1],k3,k4,by dsimp only;omega⟩,(zcb (zhz [(900,some 900),(901,some 901)]) zz2),by dsimp only;omega⟩):P:=h
theorem yy75 {P:Prop} (h:P:=by
 refine zab ?_ ?_
 . simpa using d2
 conv=>whnf
 repeat refine sG ?_
 refine sF ?_;exact ⟨⟨(i+1,t,a',b'),by dsimp only;omega,by rw [hst,hno fun h=>d2 h.2],k3,k4,by dsimp only;omega⟩,(zcb (zhz [(900,some 900),(901,some 901)]) zz2),by dsimp only;omega⟩):P:=h
theorem yy133 {P:Prop} (h:P:=by
 have hin:i=s.out.length:=by omega
 subst hin;refine sN ?_;rw [k2] at hag;subst hag
 (exact zci (zhz [(0,some 900),(1,some 901)]))):P:=h
theorem yy2 {P:Prop} (h:P:=by
 refine zam hm rfl (zw ?_);refine zaq (z:=m.sent+many s m) hWs (zw ?_);refine zam hm rfl (zw ?_);refine sD ?_;have hm':(ziu s k m).queue[k]?=some {m with mid:=zdf s m}:=by show (s.queue.set k _)[k]?=_;rw [zy41 hkl]
 have hmr:(s.queue.map zak.row)[k]?=some m.row:=by rw [zy17,hm];rfl
 (refine cL ?_;refine dL (zdk s.next) ?_)
 refine zam hm rfl (zw ?_)
 (refine zae [] [(1000,1000),(1001,1001),(1002,1002),(1003,1003),(1004,1004),(1005,1005),(1006,1006),(1007,1007),(1008,1008)] [] ?_;(conv=>whnf);refine dG (yhl s a k m hm mf) ?_)
 (refine cL ?_;refine dL (zdk (zdf s m)) ?_)
 refine zam hm' rfl (zw ?_);refine zam hm' rfl (zw ?_);refine zam hm' rfl (zw ?_);refine zam hm' rfl (zw ?_);refine zam hm' rfl (zw ?_);refine zaq (z:=m.sent+many s m) hWs (zw ?_);refine zaa (c:=0<=m.sent/\m.sent<=m.sent+many s m/\m.sent+many s m<=((m.message.data.map zcp).length:Int)) ⟨ms,by omega,by rw [zy2];omega⟩ (zw ?_);refine zha (o':=m.sent.toNat) (n':=(many s m).toNat) rfl (show (m.sent+many s m-m.sent).toNat=(many s m).toNat by rw [show m.sent+many s m-m.sent=many s m by omega]) ?_;refine zgc (f:=zcp) (l:=m.message.data) (o:=m.sent.toNat) (n:=(many s m).toNat) zz0 ?_;(conv=>whnf)
 (refine zat [(0,150)]  ?_;(conv=>whnf);refine dO (Cl.zdb ((m.message.data.drop m.sent.toNat).take (many s m).toNat) zz3) ?_)
 refine zjg [4,10,18,24,29,33,37] ?_ ?_ ?_
 . kernel_rfl
 . refine ⟨?_,?_,?_,?_,?_,?_,?_,trivial⟩
   all_goals
    refine And.intro trivial ?_;refine And.intro trivial ?_;refine And.intro ?_ trivial;(conv=>whnf);refine And.intro ?_ ?_
    . conv=>whnf
      all_goals first | rfl | exact zam hm rfl rfl
    refine And.intro ?_ trivial;(conv=>whnf)
    all_goals first | rfl | exact zam hm' rfl rfl
 (conv=>whnf);refine zam hm' rfl (zw ?_)
 (refine zat [(0,163)]  ?_;(conv=>whnf);refine dO (zkj s.sched {m with mid:=zdf s m} (many s m) (ovr s m) zz0 mf.lo mh) ?_)
 refine sD ?_;refine zam hm' rfl (zw ?_);refine zam hm' rfl (zw ?_);refine zam hm' rfl (zw ?_);refine zam hm' rfl (zw ?_);refine zaa (c:=((s.out.map zbo.row).length+1)*200<=140737488355328) zz6 (zw ?_);refine sD ?_;refine sR ?_;refine zam hm' rfl (zw ?_);refine zaq (z:=m.sent+many s m) hWs (zw ?_);refine zam hm' rfl (zw ?_);refine zcg rfl zz68 (zw ?_);refine sR ?_;refine zcg rfl zz68 (zw ?_);refine zbv (z':=(s.out.length:Int)) ?_ ?_
 . show W ((((ziu s k m).out.map zbo.row++[_]).length:Int)-1)=_
   rw [zy8,zy2,show (ziu s k m).out=s.out from rfl,zbu (by simp only [zy6,zy12];omega) (by simp only [zy6,zy12];omega)];simp only [zy6,zy12];omega
 (conv=>whnf);refine zaa zz11 (zw ?_)
 (refine zae [] [(1000,1000),(1001,1001),(1002,163),(1003,199),(1004,1004),(1005,1005),(1006,1006),(1007,1007),(1008,1008)] [(0,920)] ?_;(conv=>whnf);refine dG (zoq (s2 s k m) a s.out.length (x0 s m) w zz134 hw zz0) ?_ ⟨rfl,rfl,rfl,⟨zz1,⟨⟨rfl,_,rfl,.inl ⟨rfl,yqg⟩⟩,⟨zz1,⟨⟨rfl,_,rfl,.inl ⟨rfl,(zbc (f:=zbo.row) (x:=x0 s m) rfl rfl)⟩⟩,⟨zz1,⟨zz1,⟨zz1,⟨zz1,⟨zz1,trivial⟩⟩⟩⟩⟩⟩⟩⟩⟩,⟨⟨rfl,rfl⟩,trivial⟩,rfl,rfl,rfl⟩)
 refine sD ?_;cases hov:ovr s m with
 | true =>
  refine zac ?_ ?_
  . exact hov
  conv=>whnf
  repeat refine sG ?_
  refine zbv (z':=((k+1:Nat):Int)) ?_ ?_
  . show W ((k:Int)+1)=_
    rw [zbu (by omega) (by omega)];push_cast;rfl
  conv=>whnf
  (refine zae [] [(1000,1001)] [(0,930)] ?_;(conv=>whnf);refine dG (xex (s.queue.set k (m2 s m)) k (k+1) zz0 zz3 zz3) ?_)
  rw [zft hc0 hw rfl,zy1 hov] at hG;subst hG
  (exact zcx (pK9 [(0,some 930),(1,some 163),(2,some 199),(3,some 1004),(4,some 1005),(5,some 1006),(6,some 920)]) zz18)
 | false =>
  refine zab ?_ ?_
  . exact hov
  conv=>whnf
  repeat refine sG ?_
  rw [zft hc0 hw rfl,zy0 (by rw [hov];decide)] at hG;subst hG
  (exact zci (pK9 [(0,some 1001),(1,some 163),(2,some 199),(3,some 1004),(4,some 1005),(5,some 1006),(6,some 920)]))):P:=h
theorem yy38 {P:Prop} (h:P:=by
 subst hG
 repeat refine sG ?_
 (exact zci (pK9 [(0,some 1001),(1,some 1002),(2,some 1003),(3,some 1004),(4,some 1005),(5,some 1006),(6,some 1008)]))):P:=h
theorem yy0 {P:Prop} (h:P:=by
 refine zam hm rfl (zw ?_);refine zaq (z:=m.sent+many s m) hWs (zw ?_);refine zam hm rfl (zw ?_);refine sD ?_;have hm':(ziu s k m).queue[k]?=some {m with mid:=zdf s m}:=by show (s.queue.set k _)[k]?=_;rw [zy41 hkl]
 have hmr:(s.queue.map zak.row)[k]?=some m.row:=by rw [zy17,hm];rfl
 (refine cL ?_;refine dL (zdk s.next) ?_)
 refine zam hm rfl (zw ?_)
 (refine zae [] [(1000,1000),(1001,1001),(1002,1002),(1003,1003),(1004,1004),(1005,1005),(1006,1006),(1007,1007),(1008,1008),(1009,1009)] [] ?_;(conv=>whnf);refine dG (zqg s a b k m hm mf) ?_)
 (refine cL ?_;refine dL (zdk (zdf s m)) ?_)
 refine zam hm' rfl (zw ?_);refine zam hm' rfl (zw ?_);refine zam hm' rfl (zw ?_);refine zam hm' rfl (zw ?_);refine zam hm' rfl (zw ?_);refine zaq (z:=m.sent+many s m) hWs (zw ?_);refine zaa (c:=0<=m.sent/\m.sent<=m.sent+many s m/\m.sent+many s m<=((m.message.data.map zcp).length:Int)) ⟨ms,by omega,by rw [zy2];omega⟩ (zw ?_);refine zha (o':=m.sent.toNat) (n':=(many s m).toNat) rfl (show (m.sent+many s m-m.sent).toNat=(many s m).toNat by rw [show m.sent+many s m-m.sent=many s m by omega]) ?_;refine zgc (f:=zcp) (l:=m.message.data) (o:=m.sent.toNat) (n:=(many s m).toNat) zz0 ?_;(conv=>whnf)
 (refine zat [(0,150)]  ?_;(conv=>whnf);refine dO (Cl.zdb ((m.message.data.drop m.sent.toNat).take (many s m).toNat) zz3) ?_)
 refine zjg [4,10,18,24,29,33,37] ?_ ?_ ?_
 . kernel_rfl
 . refine ⟨?_,?_,?_,?_,?_,?_,?_,trivial⟩
   all_goals
    refine And.intro trivial ?_;refine And.intro trivial ?_;refine And.intro ?_ trivial;(conv=>whnf);refine And.intro ?_ ?_
    . conv=>whnf
      all_goals first | rfl | exact zam hm rfl rfl
    refine And.intro ?_ trivial;(conv=>whnf)
    all_goals first | rfl | exact zam hm' rfl rfl
 (conv=>whnf);refine zam hm' rfl (zw ?_)
 (refine zat [(0,163)]  ?_;(conv=>whnf);refine dO (zkj s.sched {m with mid:=zdf s m} (many s m) (ovr s m) zz0 mf.lo mh) ?_)
 refine sD ?_;refine zam hm' rfl (zw ?_);refine zam hm' rfl (zw ?_);refine zam hm' rfl (zw ?_);refine zam hm' rfl (zw ?_);refine zaa (c:=((s.out.map zbo.row).length+1)*200<=140737488355328) zz6 (zw ?_);refine sD ?_;refine sR ?_;refine zam hm' rfl (zw ?_);refine zaq (z:=m.sent+many s m) hWs (zw ?_);refine zam hm' rfl (zw ?_);refine zcg rfl zz68 (zw ?_);refine sR ?_;refine zcg rfl zz68 (zw ?_);refine zbv (z':=(s.out.length:Int)) ?_ ?_
 . show W ((((ziu s k m).out.map zbo.row++[_]).length:Int)-1)=_
   rw [zy8,zy2,show (ziu s k m).out=s.out from rfl,zbu (by simp only [zy6,zy12];omega) (by simp only [zy6,zy12];omega)];simp only [zy6,zy12];omega
 (conv=>whnf);refine zaa zz11 (zw ?_)
 (refine zae [] [(1000,1000),(1001,1001),(1002,163),(1003,199),(1004,1004),(1005,1005),(1006,1006),(1007,1007),(1008,1008),(1009,1009)] [(0,920)] ?_;(conv=>whnf);refine dG (zor (s2 s k m) a b s.out.length (x0 s m) w zz134 hw zz0) ?_ ⟨rfl,rfl,rfl,⟨zz1,⟨⟨rfl,_,rfl,.inl ⟨rfl,yqg⟩⟩,⟨zz1,⟨⟨rfl,_,rfl,.inl ⟨rfl,(zbc (f:=zbo.row) (x:=x0 s m) rfl rfl)⟩⟩,⟨zz1,⟨zz1,⟨zz1,⟨zz1,⟨zz1,⟨zz1,trivial⟩⟩⟩⟩⟩⟩⟩⟩⟩⟩,⟨⟨rfl,rfl⟩,trivial⟩,rfl,rfl,rfl⟩)
 refine sD ?_;cases hov:ovr s m with
 | true =>
  refine zac ?_ ?_
  . exact hov
  conv=>whnf
  repeat refine sG ?_
  refine zbv (z':=((k+1:Nat):Int)) ?_ ?_
  . show W ((k:Int)+1)=_
    rw [zbu (by omega) (by omega)];push_cast;rfl
  conv=>whnf
  (refine zae [] [(1000,1001)] [(0,930)] ?_;(conv=>whnf);refine dG (xex (s.queue.set k (m2 s m)) k (k+1) zz0 zz3 zz3) ?_)
  rw [zft hc0 hw rfl,zy1 hov] at hG;subst hG
  (exact zcx (zhz [(0,some 930),(1,some 163),(2,some 199),(3,some 1004),(4,some 1005),(5,some 1006),(6,some 920),(7,some 1009)]) zz18)
 | false =>
  refine zab ?_ ?_
  . exact hov
  conv=>whnf
  repeat refine sG ?_
  rw [zft hc0 hw rfl,zy0 (by rw [hov];decide)] at hG;subst hG
  (exact zci (zhz [(0,some 1001),(1,some 163),(2,some 199),(3,some 1004),(4,some 1005),(5,some 1006),(6,some 920),(7,some 1009)]))):P:=h
theorem yy15 {P:Prop} (h:P:=by
 subst hG
 repeat refine sG ?_
 (exact zci (zhz [(0,some 1001),(1,some 1002),(2,some 1003),(3,some 1004),(4,some 1005),(5,some 1006),(6,some 1008),(7,some 1009)]))):P:=h
theorem yy1 {P:Prop} (h:P:=by
 refine zam hm rfl (zw ?_);refine zaq (z:=m.sent+many s m) hWs (zw ?_);refine zam hm rfl (zw ?_);refine sD ?_;have hm':(ziu s k m).queue[k]?=some {m with mid:=zdf s m}:=by show (s.queue.set k _)[k]?=_;rw [zy41 hkl]
 have hmr:(s.queue.map zak.row)[k]?=some m.row:=by rw [zy17,hm];rfl
 (refine cL ?_;refine dL (zdk s.next) ?_)
 refine zam hm rfl (zw ?_)
 (refine zae [] [(1000,1000),(1001,1001),(1002,1002),(1003,1003),(1004,1004),(1005,1005),(1006,1006),(1007,1007),(1008,1008),(1009,1009)] [] ?_;(conv=>whnf);refine dG (zqg s a b k m hm mf) ?_)
 (refine cL ?_;refine dL (zdk (zdf s m)) ?_)
 refine zam hm' rfl (zw ?_);refine zam hm' rfl (zw ?_);refine zam hm' rfl (zw ?_);refine zam hm' rfl (zw ?_);refine zam hm' rfl (zw ?_);refine zaq (z:=m.sent+many s m) hWs (zw ?_);refine zaa (c:=0<=m.sent/\m.sent<=m.sent+many s m/\m.sent+many s m<=((m.message.data.map zcp).length:Int)) ⟨ms,by omega,by rw [zy2];omega⟩ (zw ?_);refine zha (o':=m.sent.toNat) (n':=(many s m).toNat) rfl (show (m.sent+many s m-m.sent).toNat=(many s m).toNat by rw [show m.sent+many s m-m.sent=many s m by omega]) ?_;refine zgc (f:=zcp) (l:=m.message.data) (o:=m.sent.toNat) (n:=(many s m).toNat) zz0 ?_;(conv=>whnf)
 (refine zat [(0,150)]  ?_;(conv=>whnf);refine dO (Cl.zdb ((m.message.data.drop m.sent.toNat).take (many s m).toNat) zz3) ?_)
 refine zjg [4,10,18,24,29,33,37] ?_ ?_ ?_
 . kernel_rfl
 . refine ⟨?_,?_,?_,?_,?_,?_,?_,trivial⟩
   all_goals
    refine And.intro trivial ?_;refine And.intro trivial ?_;refine And.intro ?_ trivial;(conv=>whnf);refine And.intro ?_ ?_
    . conv=>whnf
      all_goals first | rfl | exact zam hm rfl rfl
    refine And.intro ?_ trivial;(conv=>whnf)
    all_goals first | rfl | exact zam hm' rfl rfl
 (conv=>whnf);refine zam hm' rfl (zw ?_)
 (refine zat [(0,163)]  ?_;(conv=>whnf);refine dO (zkj s.sched {m with mid:=zdf s m} (many s m) (ovr s m) zz0 mf.lo mh) ?_)
 refine sD ?_;refine zam hm' rfl (zw ?_);refine zam hm' rfl (zw ?_);refine zam hm' rfl (zw ?_);refine zam hm' rfl (zw ?_);refine zaa (c:=((s.out.map zbo.row).length+1)*200<=140737488355328) zz6 (zw ?_);refine sD ?_;refine sR ?_;refine zam hm' rfl (zw ?_);refine zaq (z:=m.sent+many s m) hWs (zw ?_);refine zam hm' rfl (zw ?_);refine zcg rfl zz68 (zw ?_);refine sR ?_;refine zcg rfl zz68 (zw ?_);refine zbv (z':=(s.out.length:Int)) ?_ ?_
 . show W ((((ziu s k m).out.map zbo.row++[_]).length:Int)-1)=_
   rw [zy8,zy2,show (ziu s k m).out=s.out from rfl,zbu (by simp only [zy6,zy12];omega) (by simp only [zy6,zy12];omega)];simp only [zy6,zy12];omega
 (conv=>whnf);refine zaa zz11 (zw ?_)
 (refine zae [] [(1000,1000),(1001,1001),(1002,163),(1003,199),(1004,1004),(1005,1005),(1006,1006),(1007,1007),(1008,1008),(1009,1009)] [(0,920)] ?_;(conv=>whnf);refine dG (zos (s2 s k m) a b s.out.length (x0 s m) w zz134 hw zz0) ?_ ⟨rfl,rfl,rfl,⟨zz1,⟨⟨rfl,_,rfl,.inl ⟨rfl,yqg⟩⟩,⟨zz1,⟨⟨rfl,_,rfl,.inl ⟨rfl,(zbc (f:=zbo.row) (x:=x0 s m) rfl rfl)⟩⟩,⟨zz1,⟨zz1,⟨zz1,⟨zz1,⟨zz1,⟨zz1,trivial⟩⟩⟩⟩⟩⟩⟩⟩⟩⟩,⟨⟨rfl,rfl⟩,trivial⟩,rfl,rfl,rfl⟩)
 refine sD ?_;cases hov:ovr s m with
 | true =>
  refine zac ?_ ?_
  . exact hov
  conv=>whnf
  repeat refine sG ?_
  refine zbv (z':=((k+1:Nat):Int)) ?_ ?_
  . show W ((k:Int)+1)=_
    rw [zbu (by omega) (by omega)];push_cast;rfl
  conv=>whnf
  (refine zae [] [(1000,1001)] [(0,930)] ?_;(conv=>whnf);refine dG (xex (s.queue.set k (m2 s m)) k (k+1) zz0 zz3 zz3) ?_)
  rw [zft hc0 hw rfl,zy1 hov] at hG;subst hG
  (exact zcx (zhz [(0,some 930),(1,some 163),(2,some 199),(3,some 1004),(4,some 1005),(5,some 1006),(6,some 1008),(7,some 920)]) zz18)
 | false =>
  refine zab ?_ ?_
  . exact hov
  conv=>whnf
  repeat refine sG ?_
  rw [zft hc0 hw rfl,zy0 (by rw [hov];decide)] at hG;subst hG
  (exact zci (zhz [(0,some 1001),(1,some 163),(2,some 199),(3,some 1004),(4,some 1005),(5,some 1006),(6,some 1008),(7,some 920)]))):P:=h
theorem yy22 {P:Prop} (h:P:=by
 rw [zy0 ho] at hP;refine zab ?_ ?_
 . simpa using ho
 conv=>whnf
 repeat refine sG ?_
 refine zaa (c:=(0:Int)<=zca s.config.packet B/\zca s.config.packet B<=((B.map Chunk.row).length:Int)/\((B.map Chunk.row).length:Int)<=((B.map Chunk.row).length:Int)) ⟨by omega,by rw [zy2];omega,by omega⟩ (zw ?_);obtain ⟨x,B1,hx⟩:∃ x B1,B.take r=x::B1:=by
  cases hq:B.take r with
  | nil=>rw [zy103] at hq;rcases hq with hq | hq;omega;exact absurd hq hB
  | cons x B1=>exact ⟨x,B1,rfl⟩
 have hxl:B1.length+1=r:=by have:=congrArg List.length hx;simp at this;omega
 refine hQ2 _ _ (zw ?_);exact ⟨⟨((x::B1,B.drop r),n,acc),by rw [<- hx,zy31],by simp;omega,by simp;omega,by rw [<- i3,hP];simp⟩,(zcb (zhz [(900,some 900)]) zz8),by simp;omega⟩):P:=h
theorem yy28 {P:Prop} (h:P:=by
 cases hq:B.take r with
 | nil=>rw [zy103] at hq;rcases hq with hq | hq;omega;exact absurd hq hB
 | cons x B1=>exact ⟨x,B1,rfl⟩):P:=h
theorem yy81 {P:Prop} (h:P:=by
 conv=>whnf
 repeat refine sG ?_
 refine hQ2 _ _ (zw ?_);refine sF ?_;refine hQ _ _ ?_;conv=>whnf
 exact ⟨⟨(0+1,acc),by dsimp only;omega,by dsimp only;rw [zy12] at i4;omega,i3⟩,(zdj (pK9 [(900,some 900)])),by dsimp only;omega⟩):P:=h
theorem yy82 {P:Prop} (h:P:=by
 conv=>whnf
 repeat refine sG ?_
 refine hQ2 _ _ (zw ?_);refine sF ?_;refine hQ _ _ ?_;conv=>whnf
 exact ⟨⟨(0+1,acc),by dsimp only;omega,by dsimp only;rw [zy12] at i4;omega,i3⟩,(zdj (zhz [(900,some 900)])),by dsimp only;omega⟩):P:=h
theorem yy83 {P:Prop} (h:P:=by
 conv=>whnf
 repeat refine sG ?_
 refine hQ2 _ _ (zw ?_);refine sF ?_;refine hQ _ _ ?_;conv=>whnf
 exact ⟨⟨(1+1,acc),by dsimp only;omega,by dsimp only;rw [zy12] at i4;omega,i3⟩,(zdj (zhz [(900,some 900)])),by dsimp only;omega⟩):P:=h
theorem yy99 {P:Prop} (h:P:=by
 refine hQ2 _ _ (zw ?_);exact ⟨⟨((t::(A++B.take r),B.drop r),n,acc),by rw [i1];simp,by simp;omega,by simp;omega,by rw [<- i3,hP];simp⟩,(zcb (zhz [(900,some 900)]) zz7),by simp;omega⟩):P:=h
theorem yy23 {P:Prop} (h:P:=by
 refine zjg [3] ?_ ?_ ?_
 . kernel_rfl
 . refine ⟨?_,trivial⟩
   refine And.intro trivial ?_;refine And.intro trivial ?_;refine And.intro ?_ trivial;(conv=>whnf);refine And.intro ?_ ?_
   . conv=>whnf
   refine And.intro ?_ trivial;(conv=>whnf)
   all_goals first | rfl | trace_state
 (conv=>whnf);refine zao [(0,some 900),(1,some 901),(2,some 902),(3,some 903),(4,some 904),(5,some 905),(6,some 970)] rfl rfl trivial rfl rfl ⟨⟨rfl,.inl ⟨900,rfl,rfl⟩⟩,⟨rfl,.inl ⟨901,rfl,rfl⟩⟩,⟨rfl,.inl ⟨902,rfl,rfl⟩⟩,⟨rfl,.inl ⟨903,rfl,?_⟩⟩,⟨rfl,.inl ⟨904,rfl,rfl⟩⟩,⟨rfl,.inl ⟨905,rfl,rfl⟩⟩,⟨rfl,.inl ⟨970,rfl,?_⟩⟩,trivial⟩
 . exact zar (by rw [zy4,yde,hN,h])
 . exact zar zz135):P:=h
theorem yy46 {P:Prop} (h:P:=by
 refine sF ?_;exact ⟨⟨(A++[p],B),zag h⟩,(zaz ((2,some 2)::((16,some 16)::((14,some 14)::(pJ7 [])))) zz10),by simp⟩):P:=h
theorem yy47 {P:Prop} (h:P:=by
 refine sF ?_;exact ⟨⟨(A++[p],B),zag h⟩,(zaz ((2,some 2)::((16,some 16)::((14,some 14)::(pJ8 [])))) zz10),by simp⟩):P:=h
theorem yy102 {P:Prop} (h:P:=by
 refine zaj (a:=A.map (zfv t N)) (b:=B) (s:=p) rfl zz5 (zw ?_);refine sF ?_;exact ⟨⟨(A++[p],B),zag h⟩,(zaz ((2,some 2)::((16,some 16)::((14,some 14)::(pJ7 [])))) zz14),by simp⟩):P:=h
theorem yy103 {P:Prop} (h:P:=by
 refine zaj (a:=A.map (zfv t N)) (b:=B) (s:=p) rfl zz5 (zw ?_);refine sF ?_;exact ⟨⟨(A++[p],B),zag h⟩,(zaz ((2,some 2)::((16,some 16)::((14,some 14)::(pJ8 [])))) zz14),by simp⟩):P:=h
theorem yy41 {P:Prop} (h:P:=by
 refine sT ?_;refine zaa (c:=((out.map zbo.row).length+1)*200<=140737488355328) om (zw ?_);refine sF ?_;exact ⟨⟨_,hnx⟩,(zaz [(6,some 6),(900,some 900),(901,some 115),(902,some 902)] zz36),by simp⟩):P:=h
theorem yy70 {P:Prop} (h:P:=by
 (repeat' (first | refine sT ?_ | refine sN ?_))
 refine sO ?_;refine zbz s.path.toNat zz0 zz0 (zw ?_);refine sR ?_;refine sO ?_;refine zbz s.path.toNat zz0 zz0 (zw ?_);refine sD ?_;refine sN ?_;refine sF ?_;exact ⟨⟨_,hnx⟩,(zaz ((6,some 6)::(pJ3 [])) zz51),by simp⟩):P:=h
theorem yy79 {P:Prop} (h:P:=by
 (refine zat [(0,46)]  ?_;(conv=>whnf);refine dO (zdt l hl) ?_)
 exact zao [(0,some 46),(1,some 900),(2,none)] rfl rfl trivial rfl rfl ⟨⟨rfl,.inl ⟨46,rfl,rfl⟩⟩,⟨rfl,.inl ⟨900,rfl,rfl⟩⟩,⟨rfl,.inr ⟨rfl,rfl⟩⟩,trivial⟩):P:=h
theorem yy134 {P:Prop} (h:P:=by
 refine sT ?_;refine sF ?_;exact ⟨⟨(a++[s],b),zag h⟩,(zaz [(900,some 900),(901,some 901),(903,some 903)] zz63),by simp⟩):P:=h
theorem yy3 {P:Prop} (h:P:=by
 (refine zae [] [(1000,932)] [(0,960)] ?_;(conv=>whnf);refine dG (Sco.zfd t.out t.cum zz143) ?_)
 cases mv with
 | false =>
  rw [show zgv false t=t from zy0 (fun h=>absurd h.1 (by decide))] at hT;subst hT;(conv=>whnf)
  (refine zae [] [(1000,5),(1001,930),(1002,931),(1003,932),(1004,933),(1005,934),(1006,935)] [(0,980),(1,981),(2,982),(3,983),(4,984),(5,985)] ?_;(conv=>whnf);refine dG (zfe t (hft)) ?_ ⟨rfl,rfl,rfl,⟨zz1,⟨zz1,⟨zz1,⟨zz1,⟨zz1,⟨zz1,⟨zz1,trivial⟩⟩⟩⟩⟩⟩⟩,⟨⟨rfl,rfl⟩,⟨⟨rfl,rfl⟩,⟨⟨rfl,rfl⟩,⟨⟨rfl,rfl⟩,⟨⟨rfl,rfl⟩,⟨⟨rfl,rfl⟩,trivial⟩⟩⟩⟩⟩⟩,rfl,rfl,rfl⟩)
  refine zao [(0,some 980),(1,some 981),(2,some 982),(3,some 983),(4,some 984),(5,some 985)] rfl rfl trivial rfl rfl ⟨⟨rfl,.inl ⟨980,rfl,rfl⟩⟩,⟨rfl,.inl ⟨981,rfl,rfl⟩⟩,⟨rfl,.inl ⟨982,rfl,rfl⟩⟩,⟨rfl,.inl ⟨983,rfl,rfl⟩⟩,⟨rfl,.inl ⟨984,rfl,rfl⟩⟩,⟨rfl,.inl ⟨985,rfl,rfl⟩⟩,trivial⟩
 | true =>
  (conv=>whnf);by_cases e1:(Sco.zdx t.out t.cum).1>t.cum
  case pos =>
   rw [show zgv true t={t with forward:=true} from zy1 ⟨rfl,e1⟩] at hT;subst hT;rw [show decide ((Sco.zdx t.out t.cum).1>t.cum)=true from zy10 e1];(conv=>whnf)
   (refine zae [] [(1000,5),(1001,930),(1002,931),(1003,932),(1004,933),(1005,934),(1006,935)] [(0,980),(1,981),(2,982),(3,983),(4,984),(5,985)] ?_;(conv=>whnf);refine dG (zfe ({t with forward:=true}:zah) ((Fit.fwd hft))) ?_ ⟨rfl,rfl,rfl,⟨zz1,⟨zz1,⟨zz1,⟨zz1,⟨zz1,⟨zz1,⟨zz1,trivial⟩⟩⟩⟩⟩⟩⟩,⟨⟨rfl,rfl⟩,⟨⟨rfl,rfl⟩,⟨⟨rfl,rfl⟩,⟨⟨rfl,rfl⟩,⟨⟨rfl,rfl⟩,⟨⟨rfl,rfl⟩,trivial⟩⟩⟩⟩⟩⟩,rfl,rfl,rfl⟩)
   refine zao [(0,some 980),(1,some 981),(2,some 982),(3,some 983),(4,some 984),(5,some 985)] rfl rfl trivial rfl rfl ⟨⟨rfl,.inl ⟨980,rfl,rfl⟩⟩,⟨rfl,.inl ⟨981,rfl,rfl⟩⟩,⟨rfl,.inl ⟨982,rfl,rfl⟩⟩,⟨rfl,.inl ⟨983,rfl,rfl⟩⟩,⟨rfl,.inl ⟨984,rfl,rfl⟩⟩,⟨rfl,.inl ⟨985,rfl,rfl⟩⟩,trivial⟩
  case neg =>
   rw [show zgv true t=t from zy0 (fun h=>e1 h.2)] at hT;subst hT;rw [show decide ((Sco.zdx t.out t.cum).1>t.cum)=false from zy11 e1];(conv=>whnf)
   (refine zae [] [(1000,5),(1001,930),(1002,931),(1003,932),(1004,933),(1005,934),(1006,935)] [(0,980),(1,981),(2,982),(3,983),(4,984),(5,985)] ?_;(conv=>whnf);refine dG (zfe t (hft)) ?_ ⟨rfl,rfl,rfl,⟨zz1,⟨zz1,⟨zz1,⟨zz1,⟨zz1,⟨zz1,⟨zz1,trivial⟩⟩⟩⟩⟩⟩⟩,⟨⟨rfl,rfl⟩,⟨⟨rfl,rfl⟩,⟨⟨rfl,rfl⟩,⟨⟨rfl,rfl⟩,⟨⟨rfl,rfl⟩,⟨⟨rfl,rfl⟩,trivial⟩⟩⟩⟩⟩⟩,rfl,rfl,rfl⟩)
   refine zao [(0,some 980),(1,some 981),(2,some 982),(3,some 983),(4,some 984),(5,some 985)] rfl rfl trivial rfl rfl ⟨⟨rfl,.inl ⟨980,rfl,rfl⟩⟩,⟨rfl,.inl ⟨981,rfl,rfl⟩⟩,⟨rfl,.inl ⟨982,rfl,rfl⟩⟩,⟨rfl,.inl ⟨983,rfl,rfl⟩⟩,⟨rfl,.inl ⟨984,rfl,rfl⟩⟩,⟨rfl,.inl ⟨985,rfl,rfl⟩⟩,trivial⟩):P:=h
theorem yy4 {P:Prop} (h:P:=by
 refine zao [(0,some 980),(1,some 981),(2,some 982),(3,some 983),(4,some 984),(5,some 985)] rfl rfl trivial rfl rfl ⟨⟨rfl,.inl ⟨980,rfl,rfl⟩⟩,⟨rfl,.inl ⟨981,rfl,rfl⟩⟩,⟨rfl,.inl ⟨982,rfl,rfl⟩⟩,⟨rfl,.inl ⟨983,rfl,rfl⟩⟩,⟨rfl,.inl ⟨984,rfl,rfl⟩⟩,⟨rfl,.inl ⟨985,rfl,rfl⟩⟩,trivial⟩):P:=h
theorem yy56 {P:Prop} (h:P:=by
 (conv=>whnf);exact zao [(0,some 20),(1,some 21),(2,some 22),(3,some 23),(4,some 24),(5,some 25)] rfl rfl trivial rfl rfl ⟨⟨rfl,.inl ⟨20,rfl,rfl⟩⟩,⟨rfl,.inl ⟨21,rfl,rfl⟩⟩,⟨rfl,.inl ⟨22,rfl,rfl⟩⟩,⟨rfl,.inl ⟨23,rfl,rfl⟩⟩,⟨rfl,.inl ⟨24,rfl,rfl⟩⟩,⟨rfl,.inl ⟨25,rfl,rfl⟩⟩,trivial⟩):P:=h
theorem yy125 {P:Prop} (h:P:=by
 split
 . obtain ⟨k,hk⟩:∃ k:Nat,m.id=k:=⟨m.id.toNat,by omega⟩
   rw [hk];exact ⟨yjk h zz0,by rw [zqz,zy26]⟩
 . exact ⟨h,rfl⟩):P:=h
theorem yy104 {P:Prop} (h:P:=by
 exact ⟨by rw [g2];exact q.path0,by rw [g2];exact q.path1,by rw [g3];exact q.id0,by rw [g3];exact q.id1,by rw [g4];exact q.zas,by rw [g4];exact q.zbr,by rw [g4];exact q.data⟩):P:=h
theorem yy37 {P:Prop} (h:P:=by
 try refine sG ?_
 rw [hjv];refine zao [(0,none)] rfl rfl trivial rfl rfl ⟨⟨rfl,.inr ⟨rfl,rfl⟩⟩,trivial⟩):P:=h
namespace Go.HL
namespace Snd
open Ser
def ydi (c:Config):zah:=⟨c,0,[],Sch.new c.streams,[],List.replicate c.paths.toNat (Paths.new c.part),c.first-1,c.first,400,List.replicate (2*c.streams).toNat 0,[],false,c.first-1⟩
def noS:zah:=⟨⟨0,0,0,0,0,0,0⟩,0,[],⟨0,0,[]⟩,[],[],0,0,0,[],[],false,0⟩
def zep (s:zah) (m:Message):Int :=
 if m.stream<0\/m.stream>=s.config.streams\/m.life<0\/m.life>1000\/m.tries<0\/m.tries>1000 then 3 else
 if m.data.length<1\/m.data.length>60 then 4 else if (s.queue.length:Int)>=s.config.waiting then 7 else 0
def zhv (s:zah) (m:Message):zah:={s with queue:=s.queue++[⟨s.fates.length,-1,s.clock,0,0,m⟩],fates:=s.fates++[1]}
def flP (out:List zbo) (i:Nat) (p:Path):Path:={p with zba:=(Sco.fl i out:Nat)}
def zck (s:zah):zah:={s with paths:=s.paths.mapIdx fun i p=>flP s.out i p}
def zpg (next:Int) (m:zak):zbo:=⟨next,m.id,0,0,0,0,0,0,0,⟨1,tag next,m.message.stream,tag m.mid,m.parts,true,m.message.ordered,[],[],0,[]⟩⟩
def zez (id:Int) (s:zah) (m:zak):zah:=if m.id=id/\m.parts>0 then {s with out:=s.out++[zpg s.next m],next:=W (s.next+1)} else s
def zfg (s:zah) (id:Int):zah :=
 let t:=s.queue.foldl (zez id) {s with fates:=s.fates.set id.toNat 3}
 zck {t with queue:=s.queue.filter fun m=>decide (m.id≠id),sched:=if s.sched.hand=id then {s.sched with hand:=-1} else s.sched,out:=t.out.map (Sco.zgk id),forward:=true}
def old (clock came life:Int):Bool:=decide (life>0)&&decide (W (clock-came)>=life)
def zlm (s:zah) (m:zak):zah:=if old s.clock m.came m.message.life then zfg s m.id else s
def xcw (s:zah) (x:zbo):Bool:=decide (s.fates[x.id.toNat]?.getD 0=1)&&(decide (x.state≠2)&&(old s.clock x.came x.life||(decide (x.state=3)&&(decide (x.tries>0)&&decide (x.times>x.tries)))))
def zhl (s:zah) (x:zbo):zah:=if xcw s x then zfg s x.id else s
def expire (s:zah):zah:=(s.queue.foldl zlm s).out.foldl zhl (s.queue.foldl zlm s)
structure zfl where
 s:zah
 out:List (List Chunk)
def zsp (x:zbo) (path:Int):zbo:={x with state:=1,path:=path,missed:=0,times:=W (x.times+1)}
def setAt {α:Type} (l:List α) (k:Nat) (f:α->α):List α:=match l[k]? with
 | none=>l
 | some x=>l.set k (f x)
def fly (p:zfl) (i path:Nat):zfl:=match p.s.out[i]? with
 | none=>p
 | some x=>⟨{p.s with out:=p.s.out.set i (zsp x path),paths:=setAt p.s.paths path fun a=>{a with zba:=W (a.zba+x.chunk.data.length)}},setAt p.out path (·++[x.chunk])⟩
def opened (s:zah) (path:Nat):Bool:=match s.paths[path]? with
 | none=>false
 | some a=>decide (a.zba<a.window)
def zdh (path:Nat) (p:zfl) (i:Nat):zfl:=match p.s.out[i]? with
 | none=>p
 | some x=>if x.state=3/\opened p.s path=true then fly p i path else p
def choose (s:zah):Nat:=(Paths.zeb 0 s.paths).toNat
def again (p:zfl):zfl:=(List.range p.s.out.length).foldl (zdh (choose p.s)) p
def zba (s:zah):Int:=s.paths.foldl (fun n a=>W (n+a.zba)) 0
def zgn (s:zah) (m:zak):Nat:=(m.message.stream+if m.message.ordered then 0 else s.config.streams).toNat
def zdf (s:zah) (m:zak):Int:=if m.mid<0 then s.mids[zgn s m]?.getD 0 else m.mid
def zds (s:zah) (m:zak):List Int:=if m.mid<0 then setAt s.mids (zgn s m) (fun n=>W (n+1)) else s.mids
def cut (s:zah) (m:zak) (n:Int):Chunk:=⟨1,tag s.next,m.message.stream,tag (zdf s m),m.parts,decide (m.sent+n=m.message.data.length),m.message.ordered,(m.message.data.drop m.sent.toNat).take n.toNat,[],0,[]⟩
def many (s:zah) (m:zak):Int:=if (m.message.data.length:Int)-m.sent<s.config.part then (m.message.data.length:Int)-m.sent else s.config.part
def zlr (p:zfl) (k:Nat) (m:zak) (n:Int):zfl :=
 let zxl:=decide (m.sent+n=m.message.data.length)
 let m':zak:={m with mid:=zdf p.s m}
 let s:={p.s with mids:=zds p.s m,sched:=Sch.had p.s.sched m' n zxl,out:=p.s.out++[⟨p.s.next,m.id,0,0,0,0,m.came,m.message.life,m.message.tries,cut p.s m n⟩],next:=W (p.s.next+1),queue:=if zxl then p.s.queue.eraseIdx k else p.s.queue.set k {m' with sent:=m.sent+n,parts:=W (m.parts+1)}}
 fly ⟨s,p.out⟩ p.s.out.length (choose p.s)
def zei (s:zah):Int:=Sch.next s.config.turns s.sched s.queue
def next (p:zfl):Option zfl :=
 if zei p.s<0\/opened p.s (choose p.s)=false\/(p.s.out.length:Int)>=60 then none else match p.s.queue[(zei p.s).toNat]? with
  | none=>none
  | some m=>if zba p.s>0/\W (zba p.s+many p.s m)>p.s.room then none else some (zlr p (zei p.s).toNat m (many p.s m))
def zfu:Nat->zfl->zfl
 | 0,p=>p
 | n+1,p=>match next p with
  | none=>p
  | some q=>zfu n q
def zcs (s:zah) (a:Path):Path:=if a.zcs=0 then {a with zcs:=W (s.clock+a.wait)} else a
def forward (p:zfl):zfl:=if p.s.forward=false\/(Sco.zdx p.s.out p.s.cum).1=p.s.cum then p else
 ⟨{p.s with forward:=false,paths:=setAt p.s.paths (choose p.s) (zcs p.s)},setAt p.out (choose p.s) (·++[⟨3,tag (Sco.zdx p.s.out p.s.cum).1,0,0,0,false,false,[],[],0,(Sco.zdx p.s.out p.s.cum).2⟩])⟩
def zca (most:Int) (l:List Chunk):Int:=if 1>Pck.zfq most 0 0 l then 1 else Pck.zfq most 0 0 l
def zls (most:Int) (path:Int) (l:List Chunk):List zau:=if (Pck.zda (l.take (zca most l).toNat) most).2=0 then [⟨path,false,(Pck.zda (l.take (zca most l).toNat) most).1⟩] else []
def zfi (most:Int) (path:Int):Nat->List Chunk->List zau
 | 0,_=>[]
 | n+1,l=>if l=[] then [] else zls most path l++zfi most path n (l.drop (zca most l).toNat)
def zbs (most:Int):Nat->List (List Chunk)->List zau
 | _,[]=>[]
 | k,l::r=>zfi most k l.length l++zbs most (k+1) r
def zfv (s:zah) (n:Int) (a:Path):Path:=if a.zba>0/\a.zcs=0 then {a with zcs:=W (s.clock+a.wait)} else if a.zba=0/\n=s.cum then {a with zcs:=0} else a
def yde (s:zah):zah:={s with paths:=s.paths.map (zfv s (Sco.zdx s.out s.cum).1)}
def zml (s:zah):zfl:=zfu 61 (again (forward ⟨expire s,List.replicate s.paths.length []⟩))
def zjs (s:zah):zah×List zau:=(yde (zml s).s,zbs s.config.packet 0 (zml s).out)
def settled (s:zah) (id:Nat) (f:Int):Int:=if f=1/\(s.queue.any fun m=>decide (m.id=(id:Int)))=false/\(s.out.any fun x=>decide (x.id=(id:Int))&&decide (x.state≠2))=false then 2 else f
def settle (s:zah):zah:={s with fates:=s.fates.mapIdx fun id f=>settled s id f}
def heard (s:zah) (c:Chunk):zah :=
 let k:=Sco.zix s.out s.cum c s.paths.length
 let moved:=decide (k.2.1>s.cum)
 let t:=zck {s with out:=k.1,cum:=k.2.1,room:=c.room,paths:=s.paths.mapIdx fun i p=>if k.2.2.1[i]?.getD 0>0 then Paths.zjw p (k.2.2.1[i]?.getD 0) s.config.part moved else p}
 let u:=match k.2.2.2.getLast? with
  | none=>t
  | some z=>if z>t.recover then {t with paths:=setAt t.paths (choose t) fun p=>Paths.zpk p s.config.part,recover:=W (t.next-1)} else t
 settle (if moved=true/\(Sco.zdx u.out u.cum).1>u.cum then {u with forward:=true} else u)
def yjo (s:zah) (c:Chunk):zah:=if c.kind≠2 then s else if zdd s.cum c.tag<s.cum\/zdd s.cum c.tag>s.cum+s.out.length then s else heard s c
def znq (part:Int) (s:zah) (i:Nat):zah:=match s.paths[i]? with
 | none=>s
 | some p=>if p.zcs=0\/s.clock<p.zcs then s else
  let t:={s with out:=s.out.map (Sco.late i),paths:=s.paths.set i (Paths.late p part)}
  if (Sco.zdx t.out t.cum).1>t.cum then {t with forward:=true} else t
def tick (s:zah):zah:=(List.range s.paths.length).foldl (znq s.config.part) {s with clock:=W (s.clock+1)}
end Snd
namespace Snd
open Ser
abbrev xcb (l:List zak):zai:=.live (.row 117 10 (l.map zak.row))
abbrev xfa (l:List zbo):zai:=.live (.row 134 20 (l.map zbo.row))
abbrev yxv (l:List Path):zai:=.live (.row 86 7 (l.map Path.row))
abbrev zxc (l:List Int):zai:=.live (.row 3 1 (l.map fun n=>[pi n]))
abbrev zxb (l:List Chunk):zai:=.live (.row 61 11 (l.map Chunk.row))
abbrev zov (l:List Path):HV:=.p (.sl 7 (l.map Path.row))
def ycf (s:zah) (q h o p m f:HV):List HV:=[i64 s.config.streams,i64 s.config.part,i64 s.config.packet,i64 s.config.paths,i64 s.config.turns,i64 s.config.waiting,i64 s.config.first,i64 s.clock,q,i64 s.sched.last,i64 s.sched.hand,h,o,p,i64 s.cum,i64 s.next,i64 s.room,m,f,zbj s.forward,i64 s.recover]
def yxt (s:zah) (q h o p m f x:HV):List HV:=[i64 s.config.streams,i64 s.config.part,i64 s.config.packet,i64 s.config.paths,i64 s.config.turns,i64 s.config.waiting,i64 s.config.first,i64 s.clock,q,i64 s.sched.last,i64 s.sched.hand,h,o,p,i64 s.cum,i64 s.next,i64 s.room,m,f,zbj s.forward,i64 s.recover,x]
abbrev xem (s:zah) (a b c d e f:Nat):HV:=.agg (ycf s (.own a) (.own b) (.own c) (.own d) (.own e) (.own f))
abbrev zzg (s:zah) (a b c d e f:Nat) (L:List (Nat×zai)):List (Nat×zai):=(a,xcb s.queue)::(b,zxc s.sched.had)::(c,xfa s.out)::(d,yxv s.paths)::(e,zxc s.mids)::(f,zxc s.fates)::L
abbrev xin (s:zah) (q h o p m f:Nat) (L:List (Nat×zai)):List (Nat×zai):=(1000,.live (.cells 32 (ycf s (.own q) (.own h) (.own o) (.own p) (.own m) (.own f))))::zzg s q h o p m f L
abbrev xfd (s:zah) (a:List Chunk) (q h o p m f x c:Nat) (L:List (Nat×zai)):List (Nat×zai):=(1000,.live (.cells 139 (yxt s (.own q) (.own h) (.own o) (.own p) (.own m) (.own f) (.own x))))::zzg s q h o p m f ((x,.live (.cells 145 [.own c]))::(c,zxb a)::L)
abbrev xcc (s:zah) (a b:List Chunk) (q h o p m f x c d:Nat) (L:List (Nat×zai)):List (Nat×zai):=(1000,.live (.cells 139 (yxt s (.own q) (.own h) (.own o) (.own p) (.own m) (.own f) (.own x))))::zzg s q h o p m f ((x,.live (.cells 145 [.own c,.own d]))::(c,zxb a)::(d,zxb b)::L)
abbrev xgq (s:zah) (q h o p m f x:Nat) (L:List (Nat×zai)):List (Nat×zai):=(1000,.live (.cells 139 (yxt s (.own q) (.own h) (.own o) (.own p) (.own m) (.own f) (.own x))))::zzg s q h o p m f ((x,.live (.cells 145 [zee]))::L)
abbrev xgr (s:zah) (q h o p m f x:Nat) (L:List (Nat×zai)):List (Nat×zai):=(1000,.live (.cells 139 (yxt s (.own q) (.own h) (.own o) (.own p) (.own m) (.own f) (.own x))))::zzg s q h o p m f ((x,.live (.cells 145 [zee,zee]))::L)
abbrev pH0 (s:zah) :List (Nat×zai):=xin s  1001 1002 1003 1004 1005 1006  []
abbrev pD0 (s:zah) :List (Nat×zai):=xin s  0 1 2 3 4 5 [(1001,.dead),(1002,.dead),(1003,.dead),(1004,.dead),(1005,.dead),(1006,.dead)]
abbrev pH1 (s:zah) (a:List Chunk):List (Nat×zai):=xfd s a 1001 1002 1003 1004 1005 1006 1007 1008 []
abbrev pD1 (s:zah) (a:List Chunk):List (Nat×zai):=xfd s a 0 1 2 3 4 5 1007 6 [(1001,.dead),(1002,.dead),(1003,.dead),(1004,.dead),(1005,.dead),(1006,.dead),(1008,.dead)]
abbrev pH2 (s:zah) (a b:List Chunk):List (Nat×zai):=xcc s a b 1001 1002 1003 1004 1005 1006 1007 1008 1009 []
abbrev pD2 (s:zah) (a b:List Chunk):List (Nat×zai):=xcc s a b 0 1 2 3 4 5 1007 6 7 [(1001,.dead),(1002,.dead),(1003,.dead),(1004,.dead),(1005,.dead),(1006,.dead),(1008,.dead),(1009,.dead)]
abbrev pH3 (s:zah) :List (Nat×zai):=xgq s  1001 1002 1003 1004 1005 1006 1007 []
abbrev pD3 (s:zah) :List (Nat×zai):=xgq s  0 1 2 3 4 5 1007 [(1001,.dead),(1002,.dead),(1003,.dead),(1004,.dead),(1005,.dead),(1006,.dead)]
abbrev pH4 (s:zah) :List (Nat×zai):=xgr s  1001 1002 1003 1004 1005 1006 1007 []
abbrev pD4 (s:zah) :List (Nat×zai):=xgr s  0 1 2 3 4 5 1007 [(1001,.dead),(1002,.dead),(1003,.dead),(1004,.dead),(1005,.dead),(1006,.dead)]
abbrev ylh:List HV:=[i64 0,i64 0,i64 0,i64 0,i64 0,i64 0,i64 0,i64 0,zee,i64 0,i64 0,zee,zee,zee,i64 0,i64 0,i64 0,zee,zee,zbj false,i64 0]
structure Fit (s:zah):Prop where
 queue:s.queue.length<2 ^ 22
 had:s.sched.had.length<2 ^ 22
 out:Sco.zeu s.out
 paths:s.paths.length<2 ^ 22
 mids:s.mids.length<2 ^ 22
 fates:s.fates.length<2 ^ 30
 data:∀ m∈s.queue,m.message.data.length<2 ^ 38
theorem zdt (s:zah) (hs:Fit s):zan Tryz.prog 33 [s.hv] zad (xem s 0 1 2 3 4 5) (lk .free (zzg s 0 1 2 3 4 5 [])):=by
 obtain ⟨h1,h2,h3,h4,h5,h6,h7⟩:=hs;refine zap mixed Tryz.func33 zz4 [] (fun _=>.inl rfl) ?_;(conv=>whnf);refine ⟨{x:List zak×List zak // s.queue=x.1++x.2},fun | ⟨(A,B),_⟩=>hs 47 [(1,.ptr 1 0),(2,.ptr 2 0),(3,.own 900),(7,Sch.qs s.queue),(8,i64 s.queue.length),(9,i64 A.length)] [(1,.live (.cells 32 (ycf s (Sch.qs s.queue) (ints s.sched.had) (Sco.zdy s.out) (zov s.paths) (ints s.mids) (ints s.fates)))),(2,.live (.cells 32 ylh)),(900,xcb A)],fun x=>x.1.2.length,⟨([],s.queue),rfl⟩,?_,?_⟩
 . exact (zbi [(1,some 1),(2,some 2),(900,none)])
 rintro ⟨⟨A,B⟩,h⟩;dsimp only at h;(conv=>whnf);cases B with
 | cons p B =>
  have hz:=zbe h;have hp:=h7 p (zgf h);refine sT ?_;refine zaj h rfl (zw ?_)
  (refine zat [(0,16)]  ?_;(conv=>whnf);refine dO (Cl.zdb p.message.data zz0) ?_)
  refine zaa (c:=((A.map zak.row).length+1)*96<=140737488355328) zz3 (zw ?_);refine sF ?_;refine ⟨⟨(A++[p],B),zag h⟩,(zaz [(1,some 1),(2,some 2),(900,some 22)] (by repeat' (first | exact z0 | refine z1 ?_ | refine ⟨?_,?_⟩ | ((exact zbc (f:=zak.row) rfl rfl)) | exact z2))),by simp⟩
 | nil =>
  have hz:=zbn h;rw [zy4] at h;refine sN ?_
  (refine zat [(0,27)]  ?_;(conv=>whnf);refine dO (Sch.zdt s.sched zz0) ?_)
  (refine zat [(0,30)]  ?_;(conv=>whnf);refine dO (Sco.zdt s.out h3) ?_)
  refine sD ?_
  (refine zat [(0,36)]  ?_;(conv=>whnf);refine dO (Cl.yit s.paths zz0) ?_)
  (refine zat [(0,39)]  ?_;(conv=>whnf);refine dO (Cl.zqu s.mids zz0) ?_)
  (refine zat [(0,42)]  ?_;(conv=>whnf);refine dO (Cl.zqu s.fates zz0) ?_)
  refine sD ?_;refine zao [(0,some 900),(1,some 27),(2,some 30),(3,some 36),(4,some 39),(5,some 42)] rfl rfl trivial rfl rfl ⟨⟨rfl,.inl ⟨900,rfl,?_⟩⟩,⟨rfl,.inl ⟨27,rfl,rfl⟩⟩,⟨rfl,.inl ⟨30,rfl,rfl⟩⟩,⟨rfl,.inl ⟨36,rfl,rfl⟩⟩,⟨rfl,.inl ⟨39,rfl,rfl⟩⟩,⟨rfl,.inl ⟨42,rfl,rfl⟩⟩,trivial⟩;exact zar (by rw [h])
theorem yhp (s:zah)  (came life:Int):zan Tryz.prog 130 [.ptr 1000 0,i64 came,i64 life] (lk .free (pH3 s )) (zbj (old s.clock came life)) (lk .free (pH3 s )):=by
 exact yy77
theorem yhq (s:zah)  (came life:Int):zan Tryz.prog 130 [.ptr 1000 0,i64 came,i64 life] (lk .free (pH4 s )) (zbj (old s.clock came life)) (lk .free (pH4 s )):=by
 exact yy77
theorem yhi (s:zah) (a:List Chunk) (h4:s.paths.length<2 ^ 22):zan Tryz.prog 136 [.ptr 1000 0] (lk .free (pH1 s a)) (i64 (zba s)) (lk .free (pH1 s a)):=by
 refine zap mixed Tryz.func136 zz4 [1000,1001,1002,1003,1004,1005,1006,1007,1008] zbq ?_;(conv=>whnf);refine ⟨{x:List Path×List Path // s.paths=x.1++x.2},fun | ⟨(A,B),_⟩=>hsP [1000,1001,1002,1003,1004,1005,1006,1007,1008] 22 [(3,i64 (A.foldl (fun n a=>W (n+a.zba)) 0)),(10,.own 1004),(11,i64 s.paths.length),(12,i64 A.length)] (pH1 s a),fun x=>x.1.2.length,⟨([],s.paths),rfl⟩,?_,?_⟩
 . exact (zcb (pK9 []) zz2)
 rintro ⟨⟨A,B⟩,h⟩;dsimp only at h;(conv=>whnf);cases B with
 | cons p B =>
  have hz:=zbe h;refine sT ?_;refine sO ?_;refine zaj h rfl (zw ?_);refine sR ?_;refine sF ?_;exact ⟨⟨(A++[p],B),zag h⟩,(zcb (pK9 []) zz47),by simp⟩
 | nil =>
  have hz:=zbn h;rw [zy4] at h;refine sN ?_
  (exact zcx (pK9 []) zz95)
theorem ztd (s:zah) (a b:List Chunk) (h4:s.paths.length<2 ^ 22):zan Tryz.prog 136 [.ptr 1000 0] (lk .free (pH2 s a b)) (i64 (zba s)) (lk .free (pH2 s a b)):=by
 refine zap mixed Tryz.func136 zz4 [1000,1001,1002,1003,1004,1005,1006,1007,1008,1009] zbq ?_;(conv=>whnf);refine ⟨{x:List Path×List Path // s.paths=x.1++x.2},fun | ⟨(A,B),_⟩=>hsP [1000,1001,1002,1003,1004,1005,1006,1007,1008,1009] 22 [(3,i64 (A.foldl (fun n a=>W (n+a.zba)) 0)),(10,.own 1004),(11,i64 s.paths.length),(12,i64 A.length)] (pH2 s a b),fun x=>x.1.2.length,⟨([],s.paths),rfl⟩,?_,?_⟩
 . exact (zcb (zhz []) zz2)
 rintro ⟨⟨A,B⟩,h⟩;dsimp only at h;(conv=>whnf);cases B with
 | cons p B =>
  have hz:=zbe h;refine sT ?_;refine sO ?_;refine zaj h rfl (zw ?_);refine sR ?_;refine sF ?_;exact ⟨⟨(A++[p],B),zag h⟩,(zcb (zhz []) zz47),by simp⟩
 | nil =>
  have hz:=zbn h;rw [zy4] at h;refine sN ?_
  (exact zcx (zhz []) zz95)
end Snd
namespace Sco
open Ser
theorem zfd (l:List zbo) (cum:Int) (hl:l.length<2 ^ 38):zan Tryz.prog 81 [.own 1000,i64 cum] (lk .free [(1000,ziy l)]) (.tup [i64 (zdx l cum).1,.own 0]) (lk .free [(1000,ziy l),(0,.ro (.row 180 3 ((zdx l cum).2.map zdw.row)))]):=by
 refine zap mixed Tryz.func81 zz4 [1000] zbq ?_;generalize hR:zdx l cum=R;(conv=>whnf);refine zhs.meet PUnit (fun _=>hsP [1000] 47 [(1,i64 R.1),(6,.own 900)] [(1000,ziy l),(900,.ro (.row 180 3 (R.2.map zdw.row)))]) ?_ ?_
 . conv=>whnf
   refine ⟨{x:List zbo×List zbo×Int×List zdw // l=x.1++x.2.1/\x.2.2.2.length<=8/\zet x.2.2.1 x.2.2.2 x.2.1=R},fun | ⟨(a,b,z,sk),_⟩=>hsP [1000] 47 [(1,i64 z),(6,.own 900),(10,.own 1000),(11,i64 l.length),(12,i64 a.length)] [(1000,ziy l),(900,yhc sk)],fun x=>x.1.2.1.length,⟨([],l,cum,[]),rfl,by simp,hR⟩,?_,?_⟩
   . exact (zcb [(1000,some 1000),(900,none)] zz2)
   rintro ⟨⟨a,b,z,sk⟩,h,hsk,hi⟩;dsimp only at h hsk hi;cases b with
   | nil =>
    have hz:=zbn h;simp only [zet] at hi;subst hi;(conv=>whnf);refine sN ?_;exact ⟨⟨⟩,(zdj [(1000,some 1000),(900,some 900)])⟩
   | cons s b =>
    have hz:=zbe h;simp only [zet] at hi;(conv=>whnf);refine sT ?_;refine sO ?_;refine zaj h rfl (zw ?_);refine sR ?_;refine zaf (fun c1=>?_) (fun c1=>?_)
    . have c1:s.number≠W (z+1):=by simpa using c1
      rw [zy1 (.inl c1)] at hi;subst hi;(conv=>whnf);exact ⟨⟨⟩,(zdj [(1000,some 1000),(900,some 900)])⟩
    have c1:¬ s.number≠W (z+1):=by simpa using c1
    (conv=>whnf);have sl:=ycd s.chunk sk;by_cases c2:s.state=4
    . rw [zy0 (by rintro (h1 | h1);exact c1 h1;exact h1.1 c2),zy1 c2] at hi
      refine sN ?_
      (try refine sG ?_)
      refine sT ?_
      (refine zat [(0,37)]  ?_;(conv=>whnf);refine dO (zwo sk s.chunk zz0) ?_)
      refine zaf (fun c3=>?_) (fun c3=>?_)
      . have c3:(skip s.chunk sk).length>8:=by simp at c3;omega
        rw [zy1 c3] at hi;subst hi;(conv=>whnf);exact ⟨⟨⟩,(zdj [(1000,some 1000),(900,some 900)])⟩
      . have c3:¬ (skip s.chunk sk).length>8:=by simp at c3;omega
        rw [zy0 c3] at hi;(conv=>whnf);refine sF ?_;exact ⟨⟨(a++[s],b,s.number,skip s.chunk sk),zag h,by dsimp only;omega,hi⟩,(zdj [(1000,some 1000),(900,some 37)]),by simp⟩
    . by_cases c3:s.state=2
      . rw [zy0 (by rintro (h1 | h1);exact c1 h1;exact h1.2 c3),zy0 c2] at hi
        refine sT ?_;refine sN ?_
        (try refine sG ?_)
        refine sN ?_;refine sF ?_;exact ⟨⟨(a++[s],b,s.number,sk),zag h,hsk,hi⟩,(zdj [(1000,some 1000),(900,some 900)]),by simp⟩
      . rw [zy1 (.inr ⟨c2,c3⟩)] at hi
        subst hi;refine sT ?_;refine sT ?_;exact ⟨⟨⟩,(zdj [(1000,some 1000),(900,some 900)])⟩
 . rintro ⟨⟩
   conv=>whnf
   (exact zci [(1000,some 1000),(0,some 900)])
end Sco
namespace Snd
theorem xbf (l:List zak) (hb:l.length<2 ^ 39):zan Tryz.prog 129 [.own 1000] (lk .free [(1000,.live (.row 117 10 (l.map zak.row)))]) (.own 0) (lk .free [(1000,.live (.row 117 10 (l.map zak.row))),(0,.live (.row 117 10 (l.map zak.row)))]):=by
 refine zap mixed Tryz.func129 zz4 [1000] zbq ?_;(conv=>whnf);intro b hn;(conv=>whnf);refine zaf (fun c=>?_) (fun c=>?_)
 . conv=>whnf
   exact yy120
 . conv=>whnf
   refine zaa (c:=(([]:List (List PV)).length+(l.map zak.row).length)*96<=140737488355328) zz3 ?_;exact yy110
theorem xbg (l:List zbo) (hb:l.length<2 ^ 38):zan Tryz.prog 132 [.own 1000] (lk .free [(1000,.live (.row 134 20 (l.map zbo.row)))]) (.own 0) (lk .free [(1000,.live (.row 134 20 (l.map zbo.row))),(0,.live (.row 134 20 (l.map zbo.row)))]):=by
 refine zap mixed Tryz.func132 zz4 [1000] zbq ?_;(conv=>whnf);intro b hn;(conv=>whnf);refine zaf (fun c=>?_) (fun c=>?_)
 . conv=>whnf
   exact yy120
 . conv=>whnf
   refine zaa (c:=(([]:List (List PV)).length+(l.map zbo.row).length)*200<=140737488355328) zz3 ?_;exact yy110
end Snd
namespace Snd
open Ser Cl
theorem znu {g:FuncId} {c1:List PV} {p:zak->Bool} (hg:∀ m:zak,zan Tryz.prog g [m.hv,.rp c1] zad (zbj (p m)) zad) (q:List zak) (hb:q.length<2 ^ 62) :
 zan Tryz.prog 158 [.p (.sl 10 (q.map zak.row)),.clo g [.rp c1]] zad (i64 (zch p 0 q)) zad:=by
 refine zal mixed Tryz.func158 zz4 ?_;(conv=>whnf);refine ⟨{k:Nat // k<=q.length/\zch p k (q.drop k)=zch p 0 q},fun | ⟨k,_⟩=>hs 19 [(0,.p (.sl 10 (q.map zak.row))),(1,.clo g [.rp c1]),(7,i64 (q.map zak.row).length),(8,i64 k)] [],fun k=>q.length-k.1,⟨0,by simp⟩,?_,?_⟩
 . exact (zbi [])
 . rintro ⟨k,hk,hi⟩
   exact yy5
theorem ydx {g:FuncId} {c1:List PV} {p:zak->Bool} (hg:∀ m:zak,zan Tryz.prog g [m.hv,.rp c1] zad (zbj (p m)) zad) (A0 B0:List zak) (x:zak) (hA:∀ y∈A0,p y=false) (hx:p x=true) (hb:(A0++x::B0).length<2 ^ 38) :
 zan Tryz.prog 160 [.own 1000,.clo g [.rp c1]] (lk .free [(1000,.live (.row 117 10 ((A0++x::B0).map zak.row)))])
  (.osl 1000 10 0 ((A0++x::B0).filter fun y=>!p y).length) (lk .free [(1000,.live (.row 117 10 ((((A0++x::B0).filter fun y=>!p y).map zak.row)++List.replicate ((A0++x::B0).length-((A0++x::B0).filter fun y=>!p y).length) ([pi 0,pi 0,pi 0,pi 0,pi 0,pi 0,pb false,pi 0,pi 0,.v (.slice none 0 0)]))))]):=by
 refine zap mixed Tryz.func160 zz4 [1000] zbq ?_;have hfA:A0.filter (fun y=>!p y)=A0:=zy92.2 fun y hy=>by rw [hA y hy];rfl
 have hlen:(A0++x::B0).length=A0.length+1+B0.length:=by simp;omega
 conv=>whnf
 (refine cL ?_;refine dL (znu hg (A0++x::B0) zz0) ?_)
 rw [yfd A0 B0 x hA hx];(conv=>whnf)
 try refine sG ?_
 refine sF ?_;refine ⟨{y:(List zak×List zak)×List zak×List zak // A0++x::B0=y.1.1++y.1.2/\y.2.1=y.1.1.filter (fun z=>!p z)/\0<y.2.2.length/\y.2.1.length+y.2.2.length=y.1.1.length},fun | ⟨((A,B),K,G),_⟩=>hsP [1000] 42 [(0,.own 1000),(1,.clo g [.rp c1]),(5,i64 K.length),(6,i64 A.length)] [(1000,.live (.row 117 10 ((K++G++B).map zak.row)))],fun y=>y.1.1.2.length,⟨((A0++[x],B0),A0,[x]),by simp,by simp [hfA,hx],by simp,by simp⟩,?_,?_⟩
 . exact (zcb [(1000,some 1000)] zz23)
 rintro ⟨⟨⟨A,B⟩,K,G⟩,h,hK,hG,hl⟩;dsimp only at h hK hG hl;have hAB:(A0++x::B0).length=A.length+B.length:=by rw [h];simp
 (conv=>whnf);cases B with
 | nil =>
  rw [zy12] at hAB;rw [zy4] at h;have hF:(A0++x::B0).filter (fun z=>!p z)=K:=by rw [h,hK]
  refine zab zz3 (zw ?_)
  try refine sG ?_
  refine sOm ?_;refine sOm ?_;refine zaa zz62 (zw ?_);refine zao [(1000,some 1000)] rfl rfl ⟨rfl,trivial⟩ rfl ?_ ⟨⟨rfl,.inl ⟨1000,rfl,?_⟩⟩,trivial⟩
  . show HV.osl 1000 10 0 _=HV.osl 1000 10 0 _
    rw [hF];rfl
  . refine zar ?_
    rw [hF,zcv,zy4,zy33,zy19 (by simp;omega),zy4];congr 1
    . exact zy87 zz5
    . congr 1;simp;omega
 | cons v B =>
  rw [zy6] at hAB;have e1:K++G++v::B=(K++G)++v::B:=rfl;refine zac zz3 (zw ?_)
  try refine sG ?_
  refine sO ?_;refine zaj e1 zz3 (zw ?_)
  (refine cZ ?_;refine dL (hg v) ?_)
  cases hv:p v with
  | true =>
   exact yy100
  | false =>
   obtain ⟨g0,G,rfl⟩:∃ g0 G',G=g0::G':=by cases G with
    | nil=>simp at hG
    | cons a b=>exact ⟨a,b,rfl⟩
   have e2:K++(g0::G)++v::B=K++g0::(G++v::B):=by simp
   rw [zy6] at hl;(conv=>whnf)
   try refine sG ?_
   refine sO ?_;refine zaj e2 zz5 (zw ?_);refine sF ?_;refine sF ?_;refine ⟨⟨((A++[v],B),K++[v],G++[v]),by rw [h];simp,by rw [zy42,<- hK];simp [hv],by simp,by simp;omega⟩,(zcb [(1000,some 1000)] (by repeat' (first | exact z0 | refine z1 ?_ | refine ⟨?_,?_⟩ | ((exact zbk om)) | ((exact (zeg (f:=zak.row) (a:=K) (b:=G++v::B) (x:=g0) (y:=v) (by simp) rfl).symm.trans (zar (by simp)))) | ((refine (yoc e2 ?_ rfl).trans (zar (by simp));simp)) | exact z2))),by simp⟩
theorem zxz {g:FuncId} {c1:List PV} {p:zak->Bool} (hg:∀ m:zak,zan Tryz.prog g [m.hv,.rp c1] zad (zbj (p m)) zad) (l:List zak) (hb:l.length<2 ^ 38) :
 zan Tryz.prog 160 [.own 1000,.clo g [.rp c1]] (lk .free [(1000,.live (.row 117 10 (l.map zak.row)))])
  (.own 0) (lk .free [(1000,.dead),(0,.live (.row 117 10 ((l.filter fun y=>!p y).map zak.row)))]):=by
 rcases yfe p l with ⟨h1,h2⟩ | ⟨A,x,B,rfl,hA,hx⟩
 . refine zap mixed Tryz.func160 zz4 [1000] zbq ?_
   rw [zy92.2 fun y hy=>by rw [h2 y hy];rfl];(conv=>whnf)
   (refine cL ?_;refine dL (znu hg l zz0) ?_)
   exact yy111
 . have h:=zkb (d:=0) (L:=[]) (rows:=(((A++x::B).filter fun y=>!p y).map zak.row)++List.replicate ((A++x::B).length-((A++x::B).filter fun y=>!p y).length) ([pi 0,pi 0,pi 0,pi 0,pi 0,pi 0,pb false,pi 0,pi 0,.v (.slice none 0 0)])) (ydx hg A B x hA hx hb) (.inl rfl) zz5 rfl zz4
   rwa [zy87 zz5] at h
theorem zzj (id:Int) (m:zak):zan Tryz.prog 161 [m.hv,.rp [pi id]] zad (zbj (m.id==id)) zad:=by
 refine zal mixed Tryz.func161 zz4 ?_;(conv=>whnf)
theorem yjb (f:Nat->Path->Path) (A:List Path) (p:Path) (B:List Path):(A++[p]).mapIdx f++B=A.mapIdx f++f A.length p::B:=by
 rw [zy101];simp
theorem yck (s:zah)  (h3:Sco.zeu s.out) (h4:s.paths.length<2 ^ 22):zan Tryz.prog 78 [.ptr 1000 0] (lk .free (pH0 s )) (.tup []) (lk .free (pD0 (zck s) )):=by
 refine zap mixed Tryz.func78 zz4 [1000,1001,1002,1003,1004,1005,1006] zbq ?_;(conv=>whnf);refine ⟨{x:List Path×List Path // s.paths=x.1++x.2},fun | ⟨(A,B),_⟩=>hsP [1000,1001,1002,1003,1004,1005,1006] 25 [(0,.ptr 1000 0),(7,i64 s.paths.length),(8,i64 A.length)] (pH0 {s with paths:=A.mapIdx (flP s.out)++B} ),fun x=>x.1.2.length,⟨([],s.paths),rfl⟩,?_,?_⟩
 . exact (zcb (pK7 []) zz2)
 rintro ⟨⟨A,B⟩,h⟩;dsimp only at h;(conv=>whnf);cases B with
 | cons p B =>
  have hz:=zbe h;refine sT ?_
  (refine cL ?_;refine dL (Sco.zop s.out A.length h3) ?_)
  refine sOm ?_;refine zaj (a:=A.mapIdx (flP s.out)) (b:=B) (s:=p) rfl zz5 (zw ?_);refine sD ?_;refine sF ?_;exact ⟨⟨(A++[p],B),zag h⟩,(zcb (pK7 []) zz48),by simp⟩
 | nil =>
  have hz:=zbn h;rw [zy4] at h;refine sN ?_
  (exact zcx (pK7 [(0,some 1001),(1,some 1002),(2,some 1003),(3,some 1004),(4,some 1005),(5,some 1006)]) zz46)
theorem zqc (s:zah)  (h3:Sco.zeu s.out) (h4:s.paths.length<2 ^ 22):zan Tryz.prog 78 [.ptr 1000 0] (lk .free (pH3 s )) (.tup []) (lk .free (pD3 (zck s) )):=by
 refine zap mixed Tryz.func78 zz4 [1000,1001,1002,1003,1004,1005,1006,1007] zbq ?_;(conv=>whnf);refine ⟨{x:List Path×List Path // s.paths=x.1++x.2},fun | ⟨(A,B),_⟩=>hsP [1000,1001,1002,1003,1004,1005,1006,1007] 25 [(0,.ptr 1000 0),(7,i64 s.paths.length),(8,i64 A.length)] (pH3 {s with paths:=A.mapIdx (flP s.out)++B} ),fun x=>x.1.2.length,⟨([],s.paths),rfl⟩,?_,?_⟩
 . exact (zcb (pK8 []) zz2)
 exact yy33
theorem zqd (s:zah)  (h3:Sco.zeu s.out) (h4:s.paths.length<2 ^ 22):zan Tryz.prog 78 [.ptr 1000 0] (lk .free (pH4 s )) (.tup []) (lk .free (pD4 (zck s) )):=by
 refine zap mixed Tryz.func78 zz4 [1000,1001,1002,1003,1004,1005,1006,1007] zbq ?_;(conv=>whnf);refine ⟨{x:List Path×List Path // s.paths=x.1++x.2},fun | ⟨(A,B),_⟩=>hsP [1000,1001,1002,1003,1004,1005,1006,1007] 25 [(0,.ptr 1000 0),(7,i64 s.paths.length),(8,i64 A.length)] (pH4 {s with paths:=A.mapIdx (flP s.out)++B} ),fun x=>x.1.2.length,⟨([],s.paths),rfl⟩,?_,?_⟩
 . exact (zcb (pK8 []) zz2)
 exact yy33
end Snd
namespace Snd
open Ser
theorem yyh (id:Int) (s:zah) (m:zak):(zez id s m).out.length<=s.out.length+1/\Sco.total (zez id s m).out=Sco.total s.out:=by
 unfold zez;split
 . simp [Sco.total,zpg]
 . exact ⟨by omega,rfl⟩
theorem yan (id:Int):∀ (q:List zak) (s:zah),(q.foldl (zez id) s).out.length<=s.out.length+q.length/\Sco.total (q.foldl (zez id) s).out=Sco.total s.out
 | [],s=>⟨by simp,rfl⟩
 | m::q,s=>by
  obtain ⟨h1,h2⟩:=yyh id s m;obtain ⟨h3,h4⟩:=yan id q (zez id s m);simp only [zy52,zy6];exact ⟨by omega,by omega⟩
theorem zya (id:Int) (s:zah) (m:zak):zez id s m={s with out:=(zez id s m).out,next:=(zez id s m).next}:=by
 unfold zez;split<;>rfl
theorem zmz (id:Int):∀ (q:List zak) (s:zah),q.foldl (zez id) s={s with out:=(q.foldl (zez id) s).out,next:=(q.foldl (zez id) s).next}
 | [],s=>rfl
 | m::q,s=>by
  have h1:=zya id s m;have h2:=zmz id q (zez id s m);simp only [zy52];rw [h2];generalize q.foldl (zez id) (zez id s m)=z;rw [h1]
theorem zke (id:Int) (l:List zbo):Sco.total (l.map (Sco.zgk id))=Sco.total l:=by
 have:∀ s:zbo,(Sco.zgk id s).chunk=s.chunk:=fun s=>by unfold Sco.zgk;split<;>rfl
 simp only [Sco.total,zy113];congr 1;exact zy93 fun s _=>by simp [this]
def zkc (s:zah) (id:Nat) (o:List zbo) (n:Int):zah:={s with fates:=s.fates.set id 3,out:=o,next:=n}
theorem ysr (s:zah) (id:Nat) (q:List zak):∃ o n,q.foldl (zez id) {s with fates:=s.fates.set id 3}=zkc s id o n/\o.length<=s.out.length+q.length/\Sco.total o=Sco.total s.out:=by
 have h1:=zmz id q {s with fates:=s.fates.set id 3};obtain ⟨h2,h3⟩:=yan id q {s with fates:=s.fates.set id 3};exact ⟨_,_,h1,h2,h3⟩
theorem zwh (s:zah)  (id:Nat) (hs:Fit s) (hid:id<s.fates.length) (h9:s.out.length<2 ^ 30):zan Tryz.prog 131 [.ptr 1000 0,i64 id] (lk .free (pH3 s )) (.tup []) (lk .free (pD3 (zfg s id) )):=by
 obtain ⟨h1,h2,h3,h4,h5,h6,h7⟩:=hs;have hg:zfg s id=zck {(s.queue.foldl (zez id) {s with fates:=s.fates.set id 3}) with queue:=s.queue.filter fun m=>decide (m.id≠id),sched:=if s.sched.hand=id then {s.sched with hand:=-1} else s.sched,out:=(s.queue.foldl (zez id) {s with fates:=s.fates.set id 3}).out.map (Sco.zgk id),forward:=true}:=rfl;refine zap mixed Tryz.func131 zz4 [1000,1001,1002,1003,1004,1005,1006,1007] zbq ?_;(conv=>whnf);refine sO ?_;refine zbz id rfl hid (zw ?_);refine sD ?_;refine ⟨{x:(List zak×List zak)×List zbo×Int // s.queue=x.1.1++x.1.2/\x.1.1.foldl (zez id) {s with fates:=s.fates.set id 3}=zkc s id x.2.1 x.2.2/\x.2.1.length<=s.out.length+x.1.1.length/\Sco.total x.2.1=Sco.total s.out},
  fun | ⟨((A,B),o,n),_⟩=>hsP [1000,1001,1002,1003,1004,1005,1006,1007] 121 [(0,.ptr 1000 0),(3,.ptr 3 0),(17,.own 1001),(18,i64 s.queue.length),(19,i64 A.length)] (xgq (zkc s id o n)  1001 1002 900 1004 1005 1006 1007 [(1003,.dead),(3,.live (.cells 3 [i64 id]))]),fun x=>x.1.1.2.length,⟨(([],s.queue),s.out,s.next),rfl,rfl,by simp,rfl⟩,?_,?_⟩
 . exact (zcb (pK8 ((900,some 1003)::[(3,some 3)])) zz58)
 rintro ⟨⟨⟨A,B⟩,o,n⟩,k1,k2,k3,k4⟩;dsimp only at k1 k2 k3 k4;(conv=>whnf);cases B with
 | cons m B =>
  exact yy13
 | nil =>
  have hz:=zbn k1;rw [zy4] at k1;rw [<- k1] at k2;rw [hg,k2];refine sN ?_
  (refine zae [false,true] [(1000,1001)] [(0,85)] ?_;(conv=>whnf);refine dG (zxz (fun m=>zzj id m) s.queue zz0) ?_)
  have hsz:Sco.zeu o:=⟨by omega,by rw [k4];exact h3.bytes⟩
  by_cases c1:s.sched.hand=id
  . rw [zy1 c1]
    refine sD ?_;refine zac ?_ ?_
    . simp [zkc,c1]
    conv=>whnf
    repeat refine sG ?_
    (refine zat [(0,109)] ?_;(conv=>whnf);refine dO (Sco.zqe o id hsz) ?_)
    refine sD ?_
    (refine zae [] [(1000,1000),(1001,85),(1002,1002),(1003,109),(1004,1004),(1005,1005),(1006,1006),(1007,1007)] [(0,910),(1,911),(2,912),(3,913),(4,914),(5,915)] ?_;(conv=>whnf);refine dG (zqc {(zkc s id o n) with queue:=s.queue.filter fun m=>!(m.id==(id:Int)),sched:={s.sched with hand:=-1},out:=o.map (Sco.zgk id)}  ⟨by simp;exact hsz.len,by rw [zke];exact hsz.bytes⟩ h4) ?_)
    exact yy59
  . rw [zy0 c1]
    refine sD ?_;refine zab ?_ ?_
    . simp [zkc,c1]
    conv=>whnf
    repeat refine sG ?_
    (refine zat [(0,109)] ?_;(conv=>whnf);refine dO (Sco.zqe o id hsz) ?_)
    refine sD ?_
    (refine zae [] [(1000,1000),(1001,85),(1002,1002),(1003,109),(1004,1004),(1005,1005),(1006,1006),(1007,1007)] [(0,910),(1,911),(2,912),(3,913),(4,914),(5,915)] ?_;(conv=>whnf);refine dG (zqc {(zkc s id o n) with queue:=s.queue.filter fun m=>!(m.id==(id:Int)),sched:=s.sched,out:=o.map (Sco.zgk id)}  ⟨by simp;exact hsz.len,by rw [zke];exact hsz.bytes⟩ h4) ?_)
    exact yy59
theorem zwi (s:zah)  (id:Nat) (hs:Fit s) (hid:id<s.fates.length) (h9:s.out.length<2 ^ 30):zan Tryz.prog 131 [.ptr 1000 0,i64 id] (lk .free (pH4 s )) (.tup []) (lk .free (pD4 (zfg s id) )):=by
 obtain ⟨h1,h2,h3,h4,h5,h6,h7⟩:=hs;have hg:zfg s id=zck {(s.queue.foldl (zez id) {s with fates:=s.fates.set id 3}) with queue:=s.queue.filter fun m=>decide (m.id≠id),sched:=if s.sched.hand=id then {s.sched with hand:=-1} else s.sched,out:=(s.queue.foldl (zez id) {s with fates:=s.fates.set id 3}).out.map (Sco.zgk id),forward:=true}:=rfl;refine zap mixed Tryz.func131 zz4 [1000,1001,1002,1003,1004,1005,1006,1007] zbq ?_;(conv=>whnf);refine sO ?_;refine zbz id rfl hid (zw ?_);refine sD ?_;refine ⟨{x:(List zak×List zak)×List zbo×Int // s.queue=x.1.1++x.1.2/\x.1.1.foldl (zez id) {s with fates:=s.fates.set id 3}=zkc s id x.2.1 x.2.2/\x.2.1.length<=s.out.length+x.1.1.length/\Sco.total x.2.1=Sco.total s.out},
  fun | ⟨((A,B),o,n),_⟩=>hsP [1000,1001,1002,1003,1004,1005,1006,1007] 121 [(0,.ptr 1000 0),(3,.ptr 3 0),(17,.own 1001),(18,i64 s.queue.length),(19,i64 A.length)] (xgr (zkc s id o n)  1001 1002 900 1004 1005 1006 1007 [(1003,.dead),(3,.live (.cells 3 [i64 id]))]),fun x=>x.1.1.2.length,⟨(([],s.queue),s.out,s.next),rfl,rfl,by simp,rfl⟩,?_,?_⟩
 . exact (zcb (pK8 ((900,some 1003)::[(3,some 3)])) zz58)
 rintro ⟨⟨⟨A,B⟩,o,n⟩,k1,k2,k3,k4⟩;dsimp only at k1 k2 k3 k4;(conv=>whnf);cases B with
 | cons m B =>
  exact yy13
 | nil =>
  have hz:=zbn k1;rw [zy4] at k1;rw [<- k1] at k2;rw [hg,k2];refine sN ?_
  (refine zae [false,true] [(1000,1001)] [(0,85)] ?_;(conv=>whnf);refine dG (zxz (fun m=>zzj id m) s.queue zz0) ?_)
  have hsz:Sco.zeu o:=⟨by omega,by rw [k4];exact h3.bytes⟩
  by_cases c1:s.sched.hand=id
  . rw [zy1 c1]
    refine sD ?_;refine zac ?_ ?_
    . simp [zkc,c1]
    conv=>whnf
    repeat refine sG ?_
    (refine zat [(0,109)] ?_;(conv=>whnf);refine dO (Sco.zqe o id hsz) ?_)
    refine sD ?_
    (refine zae [] [(1000,1000),(1001,85),(1002,1002),(1003,109),(1004,1004),(1005,1005),(1006,1006),(1007,1007)] [(0,910),(1,911),(2,912),(3,913),(4,914),(5,915)] ?_;(conv=>whnf);refine dG (zqd {(zkc s id o n) with queue:=s.queue.filter fun m=>!(m.id==(id:Int)),sched:={s.sched with hand:=-1},out:=o.map (Sco.zgk id)}  ⟨by simp;exact hsz.len,by rw [zke];exact hsz.bytes⟩ h4) ?_)
    exact yy59
  . rw [zy0 c1]
    refine sD ?_;refine zab ?_ ?_
    . simp [zkc,c1]
    conv=>whnf
    repeat refine sG ?_
    (refine zat [(0,109)] ?_;(conv=>whnf);refine dO (Sco.zqe o id hsz) ?_)
    refine sD ?_
    (refine zae [] [(1000,1000),(1001,85),(1002,1002),(1003,109),(1004,1004),(1005,1005),(1006,1006),(1007,1007)] [(0,910),(1,911),(2,912),(3,913),(4,914),(5,915)] ?_;(conv=>whnf);refine dG (zqd {(zkc s id o n) with queue:=s.queue.filter fun m=>!(m.id==(id:Int)),sched:=s.sched,out:=o.map (Sco.zgk id)}  ⟨by simp;exact hsz.len,by rw [zke];exact hsz.bytes⟩ h4) ?_)
    exact yy59
end Snd
namespace Snd
open Ser
theorem zam {α:Type} {f:α->List PV} {l:List α} {i:Nat} {x:α} {z:Int} {K:List PV->Prop} (hx:l[i]?=some x) (hz:z=i) (hk:K (f x)):zpn (l.map f) z K :=
 ⟨_,by omega,by rw [hz,zy22,zy17,hx];rfl,hk⟩
theorem zfc {α:Type} {t n:Nat} {f:α->List PV} {l:List α} {k:Nat} {y:α} {r:List PV} (hr:f y=r):zai.live (.row t n ((l.map f).set k r))=zai.live (.row t n ((l.set k y).map f)):=by
 rw [<- hr,zy61]
theorem ycb {α:Type} {t n:Nat} {f:α->List PV} {l:List α} {k:Nat} {y:α} {r r1 r2 r3:List PV} (hr:f y=r):zai.live (.row t n (((((l.map f).set k r1).set k r2).set k r3).set k r))=zai.live (.row t n ((l.set k y).map f)):=by
 rw [zy141,zy141,zy141];exact zfc hr
theorem yca {t:TypeId} {l:List Path} {k:Nat} {w:Path} {d:List UInt8}:zai.live (.row t 7 ((l.map Path.row).set k [pi w.window,pi w.slow,pi w.gathered,pi (W (w.zba+((d.map zcp).length:Int))),pi w.errors,pi w.zcs,pi w.wait]))=zai.live (.row t 7 ((l.set k {w with zba:=W (w.zba+d.length)}).map Path.row)):=by
 rw [zy2];exact zfc rfl
def zxg (s:zah) (i path:Nat) (x:zbo) (a:Path):zah:={s with out:=s.out.set i (zsp x path),paths:=s.paths.set path {a with zba:=W (a.zba+x.chunk.data.length)}}
theorem zyc {s:zah} {o:List (List Chunk)} {i path:Nat} {x:zbo} {a:Path} {l:List Chunk} (hx:s.out[i]?=some x) (ha:s.paths[path]?=some a) (hl:o[path]?=some l) :
 fly ⟨s,o⟩ i path=⟨zxg s i path x a,o.set path (l++[x.chunk])⟩:=by
 simp only [fly,hx,setAt,ha,hl,zxg]
theorem zoq (s:zah) (a:List Chunk) (i:Nat) (x:zbo) (w:Path) (hx:s.out[i]?=some x) (ha:s.paths[0]?=some w) (hb:a.length<2 ^ 30) :
 zan Tryz.prog 134 [.ptr 1000 0,.eptr 1003 20 i 0,i64 0] (lk .free (pH1 s a)) (.tup []) (lk .free (xfd (zxg s i 0 x w) (a++[x.chunk]) 1001 1002 1003 1004 1005 1006 1007 0 [(1008,.dead)])):=by
 refine zap mixed Tryz.func134 zz4 [1000,1001,1002,1003,1004,1005,1006,1007,1008] zbq ?_;have hi:i<s.out.length:=(zy9.1 hx).1;have hp:0<s.paths.length:=(zy9.1 ha).1;(conv=>whnf);refine zam hx rfl (zw ?_);refine zcg rfl zz3 (zw ?_);refine zcg rfl zz3 (zw ?_);refine zcg rfl zz3 (zw ?_);refine sR ?_;refine zcg rfl zz3 (zw ?_);refine sOm ?_;refine zam ha rfl (zw ?_);refine zcg rfl zz3 (zw ?_);refine sR ?_;refine sOm ?_;refine zam ha rfl (zw ?_);refine sD ?_;refine ⟨0,rfl,by decide,zw ?_⟩;refine zcg rfl zz3 (zw ?_);refine zaa (c:=((a.map Chunk.row).length+1)*128<=140737488355328) zz3 (zw ?_);refine ⟨0,rfl,by decide,zw ?_⟩;refine sD ?_
 (exact zcx (pK9 [(0,some 58)]) zz34)
theorem zor (s:zah) (a b:List Chunk) (i:Nat) (x:zbo) (w:Path) (hx:s.out[i]?=some x) (ha:s.paths[0]?=some w) (hb:a.length<2 ^ 30) :
 zan Tryz.prog 134 [.ptr 1000 0,.eptr 1003 20 i 0,i64 0] (lk .free (pH2 s a b)) (.tup []) (lk .free (xcc (zxg s i 0 x w) (a++[x.chunk]) b 1001 1002 1003 1004 1005 1006 1007 0 1009 [(1008,.dead)])):=by
 refine zap mixed Tryz.func134 zz4 [1000,1001,1002,1003,1004,1005,1006,1007,1008,1009] zbq ?_;have hi:i<s.out.length:=(zy9.1 hx).1;have hp:0<s.paths.length:=(zy9.1 ha).1;(conv=>whnf);refine zam hx rfl (zw ?_);refine zcg rfl zz3 (zw ?_);refine zcg rfl zz3 (zw ?_);refine zcg rfl zz3 (zw ?_);refine sR ?_;refine zcg rfl zz3 (zw ?_);refine sOm ?_;refine zam ha rfl (zw ?_);refine zcg rfl zz3 (zw ?_);refine sR ?_;refine sOm ?_;refine zam ha rfl (zw ?_);refine sD ?_;refine ⟨0,rfl,by decide,zw ?_⟩;refine zcg rfl zz3 (zw ?_);refine zaa (c:=((a.map Chunk.row).length+1)*128<=140737488355328) zz3 (zw ?_);refine ⟨0,rfl,by decide,zw ?_⟩;refine sD ?_
 (exact zcx (zhz [(0,some 58)]) zz34)
theorem zos (s:zah) (a b:List Chunk) (i:Nat) (x:zbo) (w:Path) (hx:s.out[i]?=some x) (ha:s.paths[1]?=some w) (hb:b.length<2 ^ 30) :
 zan Tryz.prog 134 [.ptr 1000 0,.eptr 1003 20 i 0,i64 1] (lk .free (pH2 s a b)) (.tup []) (lk .free (xcc (zxg s i 1 x w) a (b++[x.chunk]) 1001 1002 1003 1004 1005 1006 1007 1008 0 [(1009,.dead)])):=by
 refine zap mixed Tryz.func134 zz4 [1000,1001,1002,1003,1004,1005,1006,1007,1008,1009] zbq ?_;have hi:i<s.out.length:=(zy9.1 hx).1;have hp:1<s.paths.length:=(zy9.1 ha).1;(conv=>whnf);refine zam hx rfl (zw ?_);refine zcg rfl zz3 (zw ?_);refine zcg rfl zz3 (zw ?_);refine zcg rfl zz3 (zw ?_);refine sR ?_;refine zcg rfl zz3 (zw ?_);refine sOm ?_;refine zam ha rfl (zw ?_);refine zcg rfl zz3 (zw ?_);refine sR ?_;refine sOm ?_;refine zam ha rfl (zw ?_);refine sD ?_;refine ⟨1,rfl,by decide,zw ?_⟩;refine zcg rfl zz3 (zw ?_);refine zaa (c:=((b.map Chunk.row).length+1)*128<=140737488355328) zz3 (zw ?_);refine ⟨1,rfl,by decide,zw ?_⟩;refine sD ?_
 (exact zcx (zhz [(0,some 58)]) zz34)
end Snd
namespace Snd
open Ser
def ziu (s:zah) (k:Nat) (m:zak):zah:={s with queue:=s.queue.set k {m with mid:=zdf s m},mids:=zds s m}
structure xhl (s:zah) (m:zak):Prop where
 lo:0<=m.message.stream
 hi:m.message.stream<2 ^ 40
 lo2:0<=s.config.streams
 hi2:s.config.streams<2 ^ 40
 at_:m.mid<0->zgn s m<s.mids.length
theorem zkz {α:Type} {l:List α} {k:Nat} {x:α} (h:l[k]?=some x):l.set k x=l:=by
 obtain ⟨hk,rfl⟩:=zy9.1 h;exact List.set_getElem_self hk
theorem yfp {s:zah} {k:Nat} {m:zak} (hk:s.queue[k]?=some m) (h:zdf s m=m.mid):(ziu s k m).queue=s.queue:=by
 show s.queue.set k {m with mid:=zdf s m}=_;rw [h];exact zkz hk
theorem ybl {s:zah} {k:Nat} {m:zak} {v:Int} {t:TypeId} (h:zdf s m=v):zai.live (.row t 10 ((s.queue.map zak.row).set k ({m with mid:=v}:zak).row))=zai.live (.row t 10 ((ziu s k m).queue.map zak.row)):=by
 rw [<- h];exact zfc rfl
theorem yhl (s:zah) (a:List Chunk) (k:Nat) (m:zak) (hk:s.queue[k]?=some m) (hf:xhl s m) :
 zan Tryz.prog 137 [.ptr 1000 0,.eptr 1001 10 k 0] (lk .free (pH1 s a)) (i64 (zdf s m)) (lk .free (pH1 (ziu s k m) a)):=by
 obtain ⟨f1,f2,f3,f4,f5⟩:=hf;have hk':k<s.queue.length:=(zy9.1 hk).1;refine zap mixed Tryz.func137 zz4 [1000,1001,1002,1003,1004,1005,1006,1007,1008] zbq ?_;(conv=>whnf);refine zhs.go (zw ?_);refine zam hk rfl (zw ?_);by_cases c1:m.mid<0
 . have f5:=f5 c1
   obtain ⟨v,hv⟩:∃ v,s.mids[zgn s m]?=some v:=⟨_,zy3 f5⟩
   have hmo:zdf s m=v:=by rw [zdf,zy1 c1,hv];rfl
   have hms:zds s m=s.mids.set (zgn s m) (W (v+1)):=by rw [zds,zy1 c1,setAt,hv]
   refine sT ?_;refine zam hk rfl (zw ?_)
   repeat refine sG ?_
   refine zam hk rfl (zw ?_)
   repeat refine sG ?_
   cases c2:m.message.ordered with
   | true =>
    have hat:zgn s m=m.message.stream.toNat:=by rw [zgn,c2];simp
    conv=>whnf
    repeat refine sG ?_
    exact yy66
   | false =>
    have hat:zgn s m=(m.message.stream+s.config.streams).toNat:=by rw [zgn,c2];simp
    conv=>whnf
    repeat refine sG ?_
    refine sF ?_;exact yy66
 . refine sN ?_
   repeat refine sG ?_
   refine zam hk rfl (zw ?_);have hmo:zdf s m=m.mid:=by rw [zdf,zy0 c1]
   have hms:zds s m=s.mids:=by rw [zds,zy0 c1]
   (exact zcx (pK9 []) zz42)
theorem zqg (s:zah) (a b:List Chunk) (k:Nat) (m:zak) (hk:s.queue[k]?=some m) (hf:xhl s m) :
 zan Tryz.prog 137 [.ptr 1000 0,.eptr 1001 10 k 0] (lk .free (pH2 s a b)) (i64 (zdf s m)) (lk .free (pH2 (ziu s k m) a b)):=by
 obtain ⟨f1,f2,f3,f4,f5⟩:=hf;have hk':k<s.queue.length:=(zy9.1 hk).1;refine zap mixed Tryz.func137 zz4 [1000,1001,1002,1003,1004,1005,1006,1007,1008,1009] zbq ?_;(conv=>whnf);refine zhs.go (zw ?_);refine zam hk rfl (zw ?_);by_cases c1:m.mid<0
 . have f5:=f5 c1
   obtain ⟨v,hv⟩:∃ v,s.mids[zgn s m]?=some v:=⟨_,zy3 f5⟩
   have hmo:zdf s m=v:=by rw [zdf,zy1 c1,hv];rfl
   have hms:zds s m=s.mids.set (zgn s m) (W (v+1)):=by rw [zds,zy1 c1,setAt,hv]
   refine sT ?_;refine zam hk rfl (zw ?_)
   repeat refine sG ?_
   refine zam hk rfl (zw ?_)
   repeat refine sG ?_
   cases c2:m.message.ordered with
   | true =>
    have hat:zgn s m=m.message.stream.toNat:=by rw [zgn,c2];simp
    conv=>whnf
    repeat refine sG ?_
    exact yy67
   | false =>
    have hat:zgn s m=(m.message.stream+s.config.streams).toNat:=by rw [zgn,c2];simp
    conv=>whnf
    repeat refine sG ?_
    refine sF ?_;exact yy67
 . refine sN ?_
   repeat refine sG ?_
   refine zam hk rfl (zw ?_);have hmo:zdf s m=m.mid:=by rw [zdf,zy0 c1]
   have hms:zds s m=s.mids:=by rw [zds,zy0 c1]
   (exact zcx (zhz []) zz42)
end Snd
namespace Snd
open Ser
theorem yyi (id:Int) (s:zah) (m:zak):(zez id s m).out.length=s.out.length+(if m.id=id/\m.parts>0 then 1 else 0):=by
 unfold zez;split<;>simp
theorem ylw (id:Int):∀ (q:List zak) (s:zah),(q.foldl (zez id) s).out.length+(q.filter fun m=>decide (m.id≠id)).length<=s.out.length+q.length
 | [],s=>by simp
 | m::q,s=>by
  have h1:=yyi id s m;have h2:=ylw id q (zez id s m);rw [zy52,zy49,zy6];by_cases c:m.id=id
  . simp [c] at h1 h2 ⊢;split at h1<;>omega
  . simp [c] at h1 h2 ⊢;omega
theorem ylt (id:Int):∀ (q:List zak) (s:zah),∀ x∈(q.foldl (zez id) s).out,x∈s.out\/x.id=id
 | [],s,x,h=>.inl h
 | m::q,s,x,h=>by
  rcases ylt id q (zez id s m) x h with h | h
  . unfold zez at h
    split at h
    . rename_i c
      rcases zy20.1 h with h | h
      . exact .inl h
      . rw [zy25] at h;subst h;exact .inr c.1
    . exact .inl h
  . exact .inr h
structure ylj (s:zah):Prop where
 fit:Fit s
 sum:s.out.length+s.queue.length<2 ^ 30
 qid:∀ m∈s.queue,0<=m.id/\m.id<s.fates.length
 xid:∀ x∈s.out,0<=x.id/\x.id<s.fates.length
structure Rest (s t:zah):Prop where
 config:t.config=s.config
 clock:t.clock=s.clock
 had:t.sched.had=s.sched.had
 paths:t.paths.length=s.paths.length
 cum:t.cum=s.cum
 room:t.room=s.room
 mids:t.mids=s.mids
 fates:t.fates.length=s.fates.length
 sum:t.out.length+t.queue.length<=s.out.length+s.queue.length
theorem Rest.refl (s:zah):Rest s s:=⟨rfl,rfl,rfl,rfl,rfl,rfl,rfl,rfl,zy23 _⟩
theorem Rest.trans {a b c:zah} (h:Rest a b) (k:Rest b c):Rest a c:=⟨k.config.trans h.config,k.clock.trans h.clock,k.had.trans h.had,k.paths.trans h.paths,k.cum.trans h.cum,k.room.trans h.room,k.mids.trans h.mids,k.fates.trans h.fates,zy94 k.sum h.sum⟩
theorem zkd (s:zah) (id:Nat):Rest s (zfg s id)/\Sco.total (zfg s id).out=Sco.total s.out/\(∀ m∈(zfg s id).queue,m∈s.queue)/\(∀ x∈(zfg s id).out,x.id=id\/∃ y∈s.out,y.id=x.id):=by
 obtain ⟨o,n,h1,h2,h3⟩:=ysr s id s.queue;have hs:=ylw id s.queue {s with fates:=s.fates.set id 3};have hm:=ylt id s.queue {s with fates:=s.fates.set id 3};rw [h1] at hs hm;have hg:zfg s id=zck {(zkc s id o n) with queue:=s.queue.filter fun m=>decide (m.id≠id),sched:=if s.sched.hand=id then {s.sched with hand:=-1} else s.sched,out:=o.map (Sco.zgk id),forward:=true}:=by
  show zck {(s.queue.foldl (zez id) {s with fates:=s.fates.set id 3}) with queue:=s.queue.filter fun m=>decide (m.id≠id),sched:=if s.sched.hand=id then {s.sched with hand:=-1} else s.sched,out:=(s.queue.foldl (zez id) {s with fates:=s.fates.set id 3}).out.map (Sco.zgk id),forward:=true}=_;rw [h1];rfl
 have hid:∀ y:zbo,(Sco.zgk id y).id=y.id:=fun y=>by unfold Sco.zgk;split<;>rfl
 rw [hg];refine ⟨⟨rfl,rfl,?_,?_,rfl,rfl,rfl,?_,?_⟩,?_,?_,?_⟩
 . show (if s.sched.hand=id then {s.sched with hand:=-1} else s.sched:zhr).had=_;split<;>rfl
 . show (s.paths.mapIdx _).length=_;simp
 . show (s.fates.set id 3).length=_;simp
 . show (o.map (Sco.zgk id)).length+_<=_
   rw [zy2];exact hs
 . show Sco.total (o.map (Sco.zgk id))=_
   rw [zke,h3]
 . intro m h;exact (zy138.1 h).1
 . intro x h
   obtain ⟨y,hy,rfl⟩:=zy36.1 h;rcases hm y hy with h | h
   . exact .inr ⟨y,h,(hid y).symm⟩
   . exact .inl ((hid y).trans h)
theorem yav {s:zah} (h:ylj s) {id:Nat} (hid:id<s.fates.length):ylj (zfg s id):=by
 obtain ⟨r,h1,h2,h3⟩:=zkd s id;obtain ⟨⟨f1,f2,f3,f4,f5,f6,f7⟩,g2,g3,g4⟩:=h;have hs:=r.sum;have hq:(zfg s id).queue.length<=s.queue.length:=by
  have:(zfg s id).queue=s.queue.filter fun m:zak=>decide (m.id≠(id:Int)):=rfl
  rw [this];exact zy30 _ _
 refine ⟨⟨by omega,by rw [r.had];exact f2,⟨by omega,by rw [h1];exact f3.bytes⟩,by rw [r.paths];exact f4,by rw [r.mids];exact f5,by rw [r.fates];exact f6,fun m hm=>f7 m (h2 m hm)⟩,by omega,fun m hm=>by rw [r.fates];exact g3 m (h2 m hm),fun x hx=>?_⟩;rw [r.fates];rcases h3 x hx with e | ⟨y,hy,e⟩
 . rw [e];omega
 . rw [<- e];exact g4 y hy
theorem yao {s:zah} (h:ylj s) {m:zak} (hm:0<=m.id/\m.id<s.fates.length):ylj (zlm s m)/\Rest s (zlm s m):=by
 unfold zlm;split
 . obtain ⟨k,hk⟩:∃ k:Nat,m.id=k:=⟨m.id.toNat,by omega⟩
   rw [hk];exact ⟨yav h zz0,(zkd s k).1⟩
 . exact ⟨h,Rest.refl s⟩
theorem yaq {s:zah} (h:ylj s) {x:zbo} (hm:0<=x.id/\x.id<s.fates.length):ylj (zhl s x)/\Rest s (zhl s x):=by
 unfold zhl;split
 . obtain ⟨k,hk⟩:∃ k:Nat,x.id=k:=⟨x.id.toNat,by omega⟩
   rw [hk];exact ⟨yav h zz0,(zkd s k).1⟩
 . exact ⟨h,Rest.refl s⟩
theorem yhg (s:zah)  (hs:ylj s):zan Tryz.prog 93 [.ptr 1000 0] (lk .free (pH3 s )) (.tup []) (lk .free (pD3 (expire s) )):=by
 have hs':=hs;obtain ⟨⟨h1,h2,h3,h4,h5,h6,h7⟩,g2,g3,g4⟩:=hs;generalize hE:expire s=E;refine zap mixed Tryz.func93 zz4 [1000,1001,1002,1003,1004,1005,1006,1007] zbq ?_;(conv=>whnf)
 (refine zae [] [(1000,1001)] [(0,11)] ?_;(conv=>whnf);refine dG (xbf s.queue zz0) ?_)
 refine ⟨{x:(List zak×List zak)×zah // s.queue=x.1.1++x.1.2/\x.1.1.foldl zlm s=x.2/\ylj x.2/\Rest s x.2},
  fun | ⟨((A,B),t),_⟩=>hsP [1000,1001,1002,1003,1004,1005,1006,1007] 85 [(0,.ptr 1000 0),(11,.own 11),(12,i64 s.queue.length),(13,i64 A.length)] (xgq t  900 901 902 903 904 905 1007 [(1001,.dead),(1002,.dead),(1003,.dead),(1004,.dead),(1005,.dead),(1006,.dead),(11,xcb s.queue)]),fun x=>x.1.1.2.length,⟨(([],s.queue),s),rfl,rfl,hs',Rest.refl s⟩,?_,?_⟩
 . exact (zdj (pK8 ((900,some 1001)::(901,some 1002)::(902,some 1003)::(903,some 1004)::(904,some 1005)::(905,some 1006)::[(11,some 11)])))
 rintro ⟨⟨⟨A,B⟩,t⟩,k1,k2,k3,k4⟩;dsimp only at k1 k2 k3 k4;refine zcd fun Q hQ=>?_
 (conv=>whnf);cases B with
 | cons m B =>
  have hz:=zbe k1;have zcq:(A++[m]).foldl zlm s=zlm t m:=by rw [zy58,k2];rfl
  have hm:=g3 m (zgf k1);have ht:=k4.fates;obtain ⟨id,hid⟩:∃ k:Nat,m.id=k:=⟨m.id.toNat,by omega⟩
  obtain ⟨kn,kr⟩:=yao k3 (m:=m) zz0;refine sT ?_;refine sO ?_;refine zaj k1 rfl (zw ?_)
  (refine zae [] [(1000,1000),(1001,900),(1002,901),(1003,902),(1004,903),(1005,904),(1006,905),(1007,1007)] [] ?_;(conv=>whnf);refine dG (yhp t  m.came m.message.life) ?_)
  cases ho:old t.clock m.came m.message.life with
  | true =>
   rw [zlm,zy1 ho] at zcq kn kr;have pg:=zwh t  id k3.fit zz0 zz136;exact yy34
  | false =>
   exact yy94
 | nil =>
  have hz:=zbn k1;rw [zy4] at k1;rw [<- k1] at k2;have hE2:t.out.foldl zhl t=E:=by rw [<- hE,expire,k2]
  have ko:=k3.sum;refine sN ?_;refine hQ _ _ ?_;conv=>whnf
  (refine zae [] [(1000,902)] [(0,34)] ?_;(conv=>whnf);refine dG (xbg t.out zz0) ?_)
  refine ⟨{x:(List zbo×List zbo)×zah // t.out=x.1.1++x.1.2/\x.1.1.foldl zhl t=x.2/\ylj x.2/\Rest t x.2},
   fun | ⟨((A,B),u),_⟩=>hsP [1000,1001,1002,1003,1004,1005,1006,1007] 85 [(0,.ptr 1000 0),(34,.own 34),(35,i64 t.out.length),(36,i64 A.length)] (xgq u  900 901 902 903 904 905 1007 [(1001,.dead),(1002,.dead),(1003,.dead),(1004,.dead),(1005,.dead),(1006,.dead),(34,xfa t.out)]),fun x=>x.1.1.2.length,⟨(([],t.out),t),rfl,rfl,k3,Rest.refl t⟩,?_,?_⟩
  . exact (zdj (pK8 (pJ6 [(34,some 34)])))
  have g4:=k3.xid;clear hs' g3 g2 k4 k2 k1 hE hQ Q;rintro ⟨⟨⟨A,B⟩,u⟩,k1,k2,k3,k4⟩;dsimp only at k1 k2 k3 k4;refine zcd fun Q hQ=>?_
  (conv=>whnf);cases B with
  | cons x B =>
   have hz:=zbe k1;have zcq:(A++[x]).foldl zhl t=zhl u x:=by rw [zy58,k2];rfl
   have hm:=g4 x (zgf k1);have ht:=k4.fates;obtain ⟨id,hid⟩:∃ k:Nat,x.id=k:=⟨x.id.toNat,by omega⟩
   obtain ⟨kn,kr⟩:=yaq k3 (x:=x) zz0;have hidl:id<u.fates.length:=by omega
   have pg:=zwh u  id k3.fit hidl zz136;rw [<- hid] at pg;obtain ⟨f,hf⟩:∃ f,u.fates[id]?=some f:=⟨_,zy3 hidl⟩
   have hdue:xcw u x=(decide (f=1)&&(decide (x.state≠2)&&(old u.clock x.came x.life||(decide (x.state=3)&&(decide (x.tries>0)&&decide (x.times>x.tries)))))):=by
    unfold xcw;rw [hid,zy22,hf];rfl
   refine sT ?_;refine sO ?_;refine zaj k1 rfl (zw ?_);refine sOm ?_;refine zam hf zz0 (zw ?_);by_cases d1:f=1
   case neg =>
    refine zab ?_ ?_
    . simpa using d1
    (conv=>whnf);refine sD ?_
    repeat refine sG ?_
    refine sF ?_;refine hQ _ _ ?_;conv=>whnf
    rw [zhl,zy0 (by rw [hdue];simp [d1])] at zcq;exact yy20
   refine zac ?_ ?_
   . simpa using d1
   (conv=>whnf);by_cases d2:x.state=2
   case pos =>
    refine zab ?_ ?_
    . simpa using d2
    (conv=>whnf);refine sD ?_
    repeat refine sG ?_
    refine sF ?_;refine hQ _ _ ?_;conv=>whnf
    rw [zhl,zy0 (by rw [hdue];simp [d1,d2])] at zcq;exact yy20
   refine zac ?_ ?_
   . simpa using d2
   conv=>whnf
   (refine zae [] [(1000,1000),(1001,900),(1002,901),(1003,902),(1004,903),(1005,904),(1006,905),(1007,1007)] [] ?_;(conv=>whnf);refine dG (yhp u  x.came x.life) ?_)
   exact yy6
  | nil =>
   exact yy84
theorem yhh (s:zah)  (hs:ylj s):zan Tryz.prog 93 [.ptr 1000 0] (lk .free (pH4 s )) (.tup []) (lk .free (pD4 (expire s) )):=by
 have hs':=hs;obtain ⟨⟨h1,h2,h3,h4,h5,h6,h7⟩,g2,g3,g4⟩:=hs;generalize hE:expire s=E;refine zap mixed Tryz.func93 zz4 [1000,1001,1002,1003,1004,1005,1006,1007] zbq ?_;(conv=>whnf)
 (refine zae [] [(1000,1001)] [(0,11)] ?_;(conv=>whnf);refine dG (xbf s.queue zz0) ?_)
 refine ⟨{x:(List zak×List zak)×zah // s.queue=x.1.1++x.1.2/\x.1.1.foldl zlm s=x.2/\ylj x.2/\Rest s x.2},
  fun | ⟨((A,B),t),_⟩=>hsP [1000,1001,1002,1003,1004,1005,1006,1007] 85 [(0,.ptr 1000 0),(11,.own 11),(12,i64 s.queue.length),(13,i64 A.length)] (xgr t  900 901 902 903 904 905 1007 [(1001,.dead),(1002,.dead),(1003,.dead),(1004,.dead),(1005,.dead),(1006,.dead),(11,xcb s.queue)]),fun x=>x.1.1.2.length,⟨(([],s.queue),s),rfl,rfl,hs',Rest.refl s⟩,?_,?_⟩
 . exact (zdj (pK8 ((900,some 1001)::(901,some 1002)::(902,some 1003)::(903,some 1004)::(904,some 1005)::(905,some 1006)::[(11,some 11)])))
 rintro ⟨⟨⟨A,B⟩,t⟩,k1,k2,k3,k4⟩;dsimp only at k1 k2 k3 k4;refine zcd fun Q hQ=>?_
 (conv=>whnf);cases B with
 | cons m B =>
  have hz:=zbe k1;have zcq:(A++[m]).foldl zlm s=zlm t m:=by rw [zy58,k2];rfl
  have hm:=g3 m (zgf k1);have ht:=k4.fates;obtain ⟨id,hid⟩:∃ k:Nat,m.id=k:=⟨m.id.toNat,by omega⟩
  obtain ⟨kn,kr⟩:=yao k3 (m:=m) zz0;refine sT ?_;refine sO ?_;refine zaj k1 rfl (zw ?_)
  (refine zae [] [(1000,1000),(1001,900),(1002,901),(1003,902),(1004,903),(1005,904),(1006,905),(1007,1007)] [] ?_;(conv=>whnf);refine dG (yhq t  m.came m.message.life) ?_)
  cases ho:old t.clock m.came m.message.life with
  | true =>
   rw [zlm,zy1 ho] at zcq kn kr;have pg:=zwi t  id k3.fit zz0 zz136;exact yy34
  | false =>
   exact yy94
 | nil =>
  have hz:=zbn k1;rw [zy4] at k1;rw [<- k1] at k2;have hE2:t.out.foldl zhl t=E:=by rw [<- hE,expire,k2]
  have ko:=k3.sum;refine sN ?_;refine hQ _ _ ?_;conv=>whnf
  (refine zae [] [(1000,902)] [(0,34)] ?_;(conv=>whnf);refine dG (xbg t.out zz0) ?_)
  refine ⟨{x:(List zbo×List zbo)×zah // t.out=x.1.1++x.1.2/\x.1.1.foldl zhl t=x.2/\ylj x.2/\Rest t x.2},
   fun | ⟨((A,B),u),_⟩=>hsP [1000,1001,1002,1003,1004,1005,1006,1007] 85 [(0,.ptr 1000 0),(34,.own 34),(35,i64 t.out.length),(36,i64 A.length)] (xgr u  900 901 902 903 904 905 1007 [(1001,.dead),(1002,.dead),(1003,.dead),(1004,.dead),(1005,.dead),(1006,.dead),(34,xfa t.out)]),fun x=>x.1.1.2.length,⟨(([],t.out),t),rfl,rfl,k3,Rest.refl t⟩,?_,?_⟩
  . exact (zdj (pK8 (pJ6 [(34,some 34)])))
  have g4:=k3.xid;clear hs' g3 g2 k4 k2 k1 hE hQ Q;rintro ⟨⟨⟨A,B⟩,u⟩,k1,k2,k3,k4⟩;dsimp only at k1 k2 k3 k4;refine zcd fun Q hQ=>?_
  (conv=>whnf);cases B with
  | cons x B =>
   have hz:=zbe k1;have zcq:(A++[x]).foldl zhl t=zhl u x:=by rw [zy58,k2];rfl
   have hm:=g4 x (zgf k1);have ht:=k4.fates;obtain ⟨id,hid⟩:∃ k:Nat,x.id=k:=⟨x.id.toNat,by omega⟩
   obtain ⟨kn,kr⟩:=yaq k3 (x:=x) zz0;have hidl:id<u.fates.length:=by omega
   have pg:=zwi u  id k3.fit hidl zz136;rw [<- hid] at pg;obtain ⟨f,hf⟩:∃ f,u.fates[id]?=some f:=⟨_,zy3 hidl⟩
   have hdue:xcw u x=(decide (f=1)&&(decide (x.state≠2)&&(old u.clock x.came x.life||(decide (x.state=3)&&(decide (x.tries>0)&&decide (x.times>x.tries)))))):=by
    unfold xcw;rw [hid,zy22,hf];rfl
   refine sT ?_;refine sO ?_;refine zaj k1 rfl (zw ?_);refine sOm ?_;refine zam hf zz0 (zw ?_);by_cases d1:f=1
   case neg =>
    refine zab ?_ ?_
    . simpa using d1
    (conv=>whnf);refine sD ?_
    repeat refine sG ?_
    refine sF ?_;refine hQ _ _ ?_;conv=>whnf
    rw [zhl,zy0 (by rw [hdue];simp [d1])] at zcq;exact yy20
   refine zac ?_ ?_
   . simpa using d1
   (conv=>whnf);by_cases d2:x.state=2
   case pos =>
    refine zab ?_ ?_
    . simpa using d2
    (conv=>whnf);refine sD ?_
    repeat refine sG ?_
    refine sF ?_;refine hQ _ _ ?_;conv=>whnf
    rw [zhl,zy0 (by rw [hdue];simp [d1,d2])] at zcq;exact yy20
   refine zac ?_ ?_
   . simpa using d2
   conv=>whnf
   (refine zae [] [(1000,1000),(1001,900),(1002,901),(1003,902),(1004,903),(1005,904),(1006,905),(1007,1007)] [] ?_;(conv=>whnf);refine dG (yhq u  x.came x.life) ?_)
   exact yy6
  | nil =>
   exact yy84
end Snd
namespace Snd
open Ser
def yfw (l:List (List Chunk)):List Chunk:=l[0]?.getD []
def ynp (l:List (List Chunk)):List Chunk:=l[1]?.getD []
theorem ydr:∀ (l:List Path) (k:Nat),(k=0->0<l.length)->∃ c:Nat,Paths.zeb k l=c/\(c=0\/c<k+l.length)
 | [],k,h=>⟨0,rfl,.inl rfl⟩
 | p::r,k,_=>by
  rw [Paths.zeb];split
  . exact ⟨k,rfl,.inr zz5⟩
  . obtain ⟨c,h1,h2⟩:=ydr r (k+1) zz0
    exact ⟨c,h1,by rcases h2 with h2 | h2;exact .inl h2;exact .inr zz3⟩
theorem zdm {s:zah} (h:0<s.paths.length):Paths.zeb 0 s.paths=(choose s:Nat)/\choose s<s.paths.length:=by
 obtain ⟨c,h1,h2⟩:=ydr s.paths 0 fun _=>h
 unfold choose;rw [h1];exact ⟨by simp,by rcases h2 with h2 | h2<;>simp<;>omega⟩
def xhe (s:zah):Chunk:=⟨3,tag (Sco.zdx s.out s.cum).1,0,0,0,false,false,[],[],0,(Sco.zdx s.out s.cum).2⟩
def yih (s:zah) (k:Nat) (w:Path):zah:={s with forward:=false,paths:=s.paths.set k (zcs s w)}
theorem zsq {s:zah} {o:List (List Chunk)} (h:s.forward=false\/(Sco.zdx s.out s.cum).1=s.cum):forward ⟨s,o⟩=⟨s,o⟩:=by rw [forward,zy1 h]
theorem zvc {s:zah} {o:List (List Chunk)} {w:Path} {l:List Chunk} (h:¬ (s.forward=false\/(Sco.zdx s.out s.cum).1=s.cum)) (ha:s.paths[choose s]?=some w) (hl:o[choose s]?=some l) :
 forward ⟨s,o⟩=⟨yih s (choose s) w,o.set (choose s) (l++[xhe s])⟩:=by
 rw [forward,zy0 h];simp only [setAt,ha,hl,yih,xhe]
theorem zpa {s:zah} {w:Path} (h:¬ w.zcs=0):zcs s w=w:=by rw [zcs,zy0 h]
theorem zly {s:zah} {w:Path} (h:w.zcs=0):zcs s w={w with zcs:=W (s.clock+w.wait)}:=by rw [zcs,zy1 h]
theorem ycl (s:zah) (h3:s.out.length<2 ^ 38) (h4:s.paths.length=1) :
 zan Tryz.prog 94 [.ptr 1000 0] (lk .free (pH3 s)) (.tup [])
  (lk .free (xfd (forward ⟨s,[[]]⟩).s (yfw (forward ⟨s,[[]]⟩).out) 1001 1002 1003 1004 1005 1006 1007 0 [])):=by
 obtain ⟨hch,hch2⟩:=zdm (s:=s) zz0;have hc0:choose s=0:=by omega
 have pc:=Paths.zeq s.paths zz0;rw [hch,hc0] at pc;obtain ⟨w,ha⟩:∃ w,s.paths[0]?=some w:=⟨_,zy3 zz0⟩
 refine zap mixed Tryz.func94 zz4 [1000,1001,1002,1003,1004,1005,1006,1007] zbq ?_;(conv=>whnf)
 (refine zae [] [(1000,1003)] [(0,17)] ?_;(conv=>whnf);refine dG (Sco.zfd s.out s.cum h3) ?_)
 refine sD ?_;by_cases c1:s.forward=false
 . rw [zsq (.inl c1)]
   refine zac ?_ ?_
   . simp [c1]
   conv=>whnf
   repeat refine sG ?_
   (exact zci (pK8 [(0,none)]))
 by_cases c2:(Sco.zdx s.out s.cum).1=s.cum
 . rw [zsq (.inr c2)]
   refine zab ?_ ?_
   . simp [c1]
   (conv=>whnf);refine zac ?_ ?_
   . simp [c2]
   conv=>whnf
   repeat refine sG ?_
   (exact zci (pK8 [(0,none)]))
 have hfy:=zvc (o:=[[]]) (l:=[]) (w:=w) zz122 (by rw [hc0];exact ha) (by rw [hc0];rfl);rw [hfy,hc0];refine zab ?_ ?_
 . simp [c1]
 (conv=>whnf);refine zab ?_ ?_
 . simp [c2]
 conv=>whnf
 repeat refine sG ?_
 (refine cL ?_;refine dL pc ?_)
 refine ⟨0,rfl,by decide,zw ?_⟩
 (refine cL ?_;refine dL (zdk _) ?_)
 refine zaa (c:=(1:Nat)*128<=140737488355328) zz4 (zw ?_);refine ⟨0,rfl,by decide,zw ?_⟩;refine sD ?_;refine sOm ?_;refine zam ha rfl (zw ?_);by_cases c3:w.zcs=0
 case pos =>
  refine zac ?_ ?_
  . simpa using c3
  conv=>whnf
  repeat refine sG ?_
  refine zam ha rfl (zw ?_);refine sR ?_;refine zam ha rfl (zw ?_);refine sD ?_
  (exact zcx (pK8 [(0,some 62)]) zz32)
 case neg =>
  refine zab ?_ ?_
  . simpa using c3
  conv=>whnf
  repeat refine sG ?_
  rw [show (yih s 0 w)={s with forward:=false} by {unfold yih;rw [zpa c3,zkz ha]}]
  (exact zci (pK8 [(0,some 62)]))
theorem ycm (s:zah) (h3:s.out.length<2 ^ 38) (h4:s.paths.length=2) :
 zan Tryz.prog 94 [.ptr 1000 0] (lk .free (pH4 s)) (.tup [])
  (lk .free (xcc (forward ⟨s,[[],[]]⟩).s (yfw (forward ⟨s,[[],[]]⟩).out) (ynp (forward ⟨s,[[],[]]⟩).out) 1001 1002 1003 1004 1005 1006 1007 0 1 [])):=by
 obtain ⟨hch,hch2⟩:=zdm (s:=s) zz0;have hc01:choose s=0\/choose s=1:=by omega
 rcases hc01 with hc0 | hc0
 case inl =>
  have pc:=Paths.zeq s.paths zz0;rw [hch,hc0] at pc;obtain ⟨w,ha⟩:∃ w,s.paths[0]?=some w:=⟨_,zy3 zz0⟩
  refine zap mixed Tryz.func94 zz4 [1000,1001,1002,1003,1004,1005,1006,1007] zbq ?_;(conv=>whnf)
  (refine zae [] [(1000,1003)] [(0,17)] ?_;(conv=>whnf);refine dG (Sco.zfd s.out s.cum h3) ?_)
  refine sD ?_;by_cases c1:s.forward=false
  . rw [zsq (.inl c1)]
    exact yy148
  by_cases c2:(Sco.zdx s.out s.cum).1=s.cum
  . rw [zsq (.inr c2)]
    exact yy127
  have hfy:=zvc (o:=[[],[]]) (l:=[]) (w:=w) zz122 (by rw [hc0];exact ha) (by rw [hc0];rfl);rw [hfy,hc0];refine zab ?_ ?_
  . simp [c1]
  (conv=>whnf);refine zab ?_ ?_
  . simp [c2]
  conv=>whnf
  repeat refine sG ?_
  (refine cL ?_;refine dL pc ?_)
  refine ⟨0,rfl,by decide,zw ?_⟩
  (refine cL ?_;refine dL (zdk _) ?_)
  refine zaa (c:=(1:Nat)*128<=140737488355328) zz4 (zw ?_);refine ⟨0,rfl,by decide,zw ?_⟩;refine sD ?_;refine sOm ?_;refine zam ha rfl (zw ?_);by_cases c3:w.zcs=0
  case pos =>
   refine zac ?_ ?_
   . simpa using c3
   conv=>whnf
   repeat refine sG ?_
   refine zam ha rfl (zw ?_);refine sR ?_;refine zam ha rfl (zw ?_);refine sD ?_
   (exact zcx (pK8 [(0,some 62),(1,none)]) zz32)
  case neg =>
   refine zab ?_ ?_
   . simpa using c3
   conv=>whnf
   repeat refine sG ?_
   rw [show (yih s 0 w)={s with forward:=false} by {unfold yih;rw [zpa c3,zkz ha]}]
   (exact zci (pK8 [(0,some 62),(1,none)]))
 case inr =>
  have pc:=Paths.zeq s.paths zz0;rw [hch,hc0] at pc;obtain ⟨w,ha⟩:∃ w,s.paths[1]?=some w:=⟨_,zy3 zz0⟩
  refine zap mixed Tryz.func94 zz4 [1000,1001,1002,1003,1004,1005,1006,1007] zbq ?_;(conv=>whnf)
  (refine zae [] [(1000,1003)] [(0,17)] ?_;(conv=>whnf);refine dG (Sco.zfd s.out s.cum h3) ?_)
  refine sD ?_;by_cases c1:s.forward=false
  . rw [zsq (.inl c1)]
    exact yy148
  by_cases c2:(Sco.zdx s.out s.cum).1=s.cum
  . rw [zsq (.inr c2)]
    exact yy127
  have hfy:=zvc (o:=[[],[]]) (l:=[]) (w:=w) zz122 (by rw [hc0];exact ha) (by rw [hc0];rfl);rw [hfy,hc0];refine zab ?_ ?_
  . simp [c1]
  (conv=>whnf);refine zab ?_ ?_
  . simp [c2]
  conv=>whnf
  repeat refine sG ?_
  (refine cL ?_;refine dL pc ?_)
  refine ⟨1,rfl,by decide,zw ?_⟩
  (refine cL ?_;refine dL (zdk _) ?_)
  refine zaa (c:=(1:Nat)*128<=140737488355328) zz4 (zw ?_);refine ⟨1,rfl,by decide,zw ?_⟩;refine sD ?_;refine sOm ?_;refine zam ha rfl (zw ?_);by_cases c3:w.zcs=0
  case pos =>
   refine zac ?_ ?_
   . simpa using c3
   conv=>whnf
   repeat refine sG ?_
   refine zam ha rfl (zw ?_);refine sR ?_;refine zam ha rfl (zw ?_);refine sD ?_
   (exact zcx (pK8 [(1,some 62),(0,none)]) (by repeat' (first | exact z0 | refine z1 ?_ | refine ⟨?_,?_⟩ | ((exact (zfc (f:=Path.row) (y:={w with zcs:=W (s.clock+w.wait)}) rfl).trans (zar (by rw [show (yih s 1 w).paths=s.paths.set 1 (zcs s w) from rfl,zly c3];rfl)))) | exact z2)))
  case neg =>
   refine zab ?_ ?_
   . simpa using c3
   conv=>whnf
   repeat refine sG ?_
   rw [show (yih s 1 w)={s with forward:=false} by {unfold yih;rw [zpa c3,zkz ha]}]
   (exact zci (pK8 [(1,some 62),(0,none)]))
end Snd
namespace Snd
open Ser
theorem zij {α:Type} (f:α->Nat->α) (p:α) (i:Nat):(List.range (i+1)).foldl f p=f ((List.range i).foldl f p) i:=by
 rw [List.range_succ,zy58];rfl
theorem zoz {s:zah} {o:List (List Chunk)} {i c:Nat} {x:zbo} {w:Path} (hx:s.out[i]?=some x) (hw:s.paths[c]?=some w) (h:¬ (x.state=3/\w.zba<w.window)):zdh c ⟨s,o⟩ i=⟨s,o⟩:=by
 simp only [zdh,hx,opened,hw];rw [zy0 (by simpa using h)]
theorem zlx {s:zah} {o:List (List Chunk)} {i c:Nat} {x:zbo} {w:Path} {l:List Chunk} (hx:s.out[i]?=some x) (hw:s.paths[c]?=some w) (hl:o[c]?=some l) (h:x.state=3/\w.zba<w.window) :
 zdh c ⟨s,o⟩ i=⟨zxg s i c x w,o.set c (l++[x.chunk])⟩:=by
 simp only [zdh,hx,opened,hw];rw [zy1 (by simpa using h),zyc hx hw hl]
theorem yko (s:zah) (a:List Chunk) (h3:s.out.length<2 ^ 28) (h4:s.paths.length=1) (ha:a.length<2 ^ 28) :
 zan Tryz.prog 95 [.ptr 1000 0] (lk .free (pH1 s a)) (.tup [])
  (lk .free (xfd (again ⟨s,[a]⟩).s (yfw (again ⟨s,[a]⟩).out) 1001 1002 1003 1004 1005 1006 1007 0 [(1008,.dead)])):=by
 obtain ⟨hch,hch2⟩:=zdm (s:=s) zz0;have hc0:choose s=0:=by omega
 have pc:=Paths.zeq s.paths zz0;rw [hch,hc0] at pc;have hag:again ⟨s,[a]⟩=(List.range s.out.length).foldl (zdh 0) ⟨s,[a]⟩:=by rw [again,hc0]
 generalize again ⟨s,[a]⟩=G at hag ⊢;refine zap mixed Tryz.func95 zz4 [1000,1001,1002,1003,1004,1005,1006,1007,1008] zbq ?_;(conv=>whnf)
 (refine cL ?_;refine dL pc ?_)
 refine ⟨{x:Nat×zah×List Chunk // x.1<=s.out.length/\(List.range x.1).foldl (zdh 0) ⟨s,[a]⟩=⟨x.2.1,[x.2.2]⟩/\x.2.1.out.length=s.out.length/\x.2.1.paths.length=s.paths.length/\x.2.2.length<=a.length+x.1},
  fun | ⟨(i,t,a'),_⟩=>hsP [1000,1001,1002,1003,1004,1005,1006,1007,1008] 51 [(0,.ptr 1000 0),(2,i64 0),(15,i64 s.out.length),(16,i64 i)] (xfd t a' 1001 1002 1003 1004 1005 1006 1007 900 [(1008,.dead)]),fun x=>s.out.length-x.1.1,⟨(0,s,a),by omega,rfl,rfl,rfl,by dsimp only;omega⟩,?_,?_⟩
 . exact (zcb (pK9 [(900,some 1008)]) zz2)
 rintro ⟨⟨i,t,a'⟩,k1,k2,k3,k4,k5⟩;dsimp only at k1 k2 k3 k4 k5;(conv=>whnf);by_cases hi:i<s.out.length
 case pos =>
  obtain ⟨x,hx⟩:∃ x,t.out[i]?=some x:=⟨_,zy3 zz0⟩
  obtain ⟨w,hw⟩:∃ w,t.paths[0]?=some w:=⟨_,zy3 zz0⟩
  have hst:=zij (zdh 0) ⟨s,[a]⟩ i;rw [k2] at hst;have hno:=zoz (o:=[a']) (c:=0) hx hw;have hyes:=zlx (o:=[a']) (c:=0) (l:=a') hx hw rfl;refine sT ?_;refine sO ?_;refine zam hx rfl (zw ?_);by_cases d1:x.state=3
  case neg =>
   refine zab ?_ ?_
   . simpa using d1
   conv=>whnf
   repeat refine sG ?_
   refine sF ?_;exact ⟨⟨(i+1,t,a'),by dsimp only;omega,by rw [hst,hno fun h=>d1 h.1],k3,k4,by dsimp only;omega⟩,(zcb (pK9 [(900,some 900)]) zz2),by dsimp only;omega⟩
  refine zac ?_ ?_
  . simpa using d1
  (conv=>whnf);refine sOm ?_;refine zam hw rfl (zw ?_)
  (refine cL ?_;refine dL (Paths.zkl w) ?_)
  by_cases d2:w.zba<w.window
  case neg =>
   refine zab ?_ ?_
   . simpa using d2
   conv=>whnf
   repeat refine sG ?_
   refine sF ?_;exact ⟨⟨(i+1,t,a'),by dsimp only;omega,by rw [hst,hno fun h=>d2 h.2],k3,k4,by dsimp only;omega⟩,(zcb (pK9 [(900,some 900)]) zz2),by dsimp only;omega⟩
  refine zac ?_ ?_
  . simpa using d2
  conv=>whnf
  repeat refine sG ?_
  refine sOm ?_
  (refine zae [] [(1000,1000),(1001,1001),(1002,1002),(1003,1003),(1004,1004),(1005,1005),(1006,1006),(1007,1007),(1008,900)] [(0,920)] ?_;(conv=>whnf);refine dG (zoq t a' i x w hx hw zz0) ?_)
  refine sF ?_;exact ⟨⟨(i+1,zxg t i 0 x w,a'++[x.chunk]),by dsimp only;omega,by rw [hst,hyes ⟨d1,d2⟩];rfl,by show (t.out.set i _).length=_;rw [zy26];exact k3,by show (t.paths.set 0 _).length=_;rw [zy26];exact k4,by simp;omega⟩,(zcb (pK9 [(900,some 920)]) zz2),by dsimp only;omega⟩
 case neg =>
  have hin:i=s.out.length:=by omega
  subst hin;refine sN ?_;rw [k2] at hag;subst hag
  (exact zci (pK9 [(0,some 900)]))
theorem ykp (s:zah) (a b:List Chunk) (h3:s.out.length<2 ^ 28) (h4:s.paths.length=2) (ha:a.length+b.length<2 ^ 28) :
 zan Tryz.prog 95 [.ptr 1000 0] (lk .free (pH2 s a b)) (.tup [])
  (lk .free (xcc (again ⟨s,[a,b]⟩).s (yfw (again ⟨s,[a,b]⟩).out) (ynp (again ⟨s,[a,b]⟩).out) 1001 1002 1003 1004 1005 1006 1007 0 1 [(1008,.dead),(1009,.dead)])):=by
 obtain ⟨hch,hch2⟩:=zdm (s:=s) zz0;have hc01:choose s=0\/choose s=1:=by omega
 rcases hc01 with hc0 | hc0
 case inl =>
  have pc:=Paths.zeq s.paths zz0;rw [hch,hc0] at pc;have hag:again ⟨s,[a,b]⟩=(List.range s.out.length).foldl (zdh 0) ⟨s,[a,b]⟩:=by rw [again,hc0]
  generalize again ⟨s,[a,b]⟩=G at hag ⊢;refine zap mixed Tryz.func95 zz4 [1000,1001,1002,1003,1004,1005,1006,1007,1008,1009] zbq ?_;(conv=>whnf)
  (refine cL ?_;refine dL pc ?_)
  refine ⟨{x:Nat×zah×List Chunk×List Chunk // x.1<=s.out.length/\(List.range x.1).foldl (zdh 0) ⟨s,[a,b]⟩=⟨x.2.1,[x.2.2.1,x.2.2.2]⟩/\x.2.1.out.length=s.out.length/\x.2.1.paths.length=s.paths.length/\x.2.2.1.length+x.2.2.2.length<=a.length+b.length+x.1},
   fun | ⟨(i,t,a',b'),_⟩=>hsP [1000,1001,1002,1003,1004,1005,1006,1007,1008,1009] 51 [(0,.ptr 1000 0),(2,i64 0),(15,i64 s.out.length),(16,i64 i)] (xcc t a' b' 1001 1002 1003 1004 1005 1006 1007 900 901 [(1008,.dead),(1009,.dead)]),fun x=>s.out.length-x.1.1,⟨(0,s,a,b),by omega,rfl,rfl,rfl,by dsimp only;omega⟩,?_,?_⟩
  . exact (zcb (zhz [(900,some 1008),(901,some 1009)]) zz2)
  rintro ⟨⟨i,t,a',b'⟩,k1,k2,k3,k4,k5⟩;dsimp only at k1 k2 k3 k4 k5;(conv=>whnf);by_cases hi:i<s.out.length
  case pos =>
   obtain ⟨x,hx⟩:∃ x,t.out[i]?=some x:=⟨_,zy3 zz0⟩
   obtain ⟨w,hw⟩:∃ w,t.paths[0]?=some w:=⟨_,zy3 zz0⟩
   have hst:=zij (zdh 0) ⟨s,[a,b]⟩ i;rw [k2] at hst;have hno:=zoz (o:=[a',b']) (c:=0) hx hw;have hyes:=zlx (o:=[a',b']) (c:=0) (l:=a') hx hw rfl;refine sT ?_;refine sO ?_;refine zam hx rfl (zw ?_);by_cases d1:x.state=3
   case neg =>
    exact yy74
   refine zac ?_ ?_
   . simpa using d1
   (conv=>whnf);refine sOm ?_;refine zam hw rfl (zw ?_)
   (refine cL ?_;refine dL (Paths.zkl w) ?_)
   by_cases d2:w.zba<w.window
   case neg =>
    exact yy75
   refine zac ?_ ?_
   . simpa using d2
   conv=>whnf
   repeat refine sG ?_
   refine sOm ?_
   (refine zae [] [(1000,1000),(1001,1001),(1002,1002),(1003,1003),(1004,1004),(1005,1005),(1006,1006),(1007,1007),(1008,900),(1009,901)] [(0,920)] ?_;(conv=>whnf);refine dG (zor t a' b' i x w hx hw zz0) ?_)
   refine sF ?_;exact ⟨⟨(i+1,zxg t i 0 x w,a'++[x.chunk],b'),by dsimp only;omega,by rw [hst,hyes ⟨d1,d2⟩];rfl,by show (t.out.set i _).length=_;rw [zy26];exact k3,by show (t.paths.set 0 _).length=_;rw [zy26];exact k4,by simp;omega⟩,(zcb (zhz ((900,some 920)::[(901,some 901)])) zz2),by dsimp only;omega⟩
  case neg =>
   exact yy133
 case inr =>
  have pc:=Paths.zeq s.paths zz0;rw [hch,hc0] at pc;have hag:again ⟨s,[a,b]⟩=(List.range s.out.length).foldl (zdh 1) ⟨s,[a,b]⟩:=by rw [again,hc0]
  generalize again ⟨s,[a,b]⟩=G at hag ⊢;refine zap mixed Tryz.func95 zz4 [1000,1001,1002,1003,1004,1005,1006,1007,1008,1009] zbq ?_;(conv=>whnf)
  (refine cL ?_;refine dL pc ?_)
  refine ⟨{x:Nat×zah×List Chunk×List Chunk // x.1<=s.out.length/\(List.range x.1).foldl (zdh 1) ⟨s,[a,b]⟩=⟨x.2.1,[x.2.2.1,x.2.2.2]⟩/\x.2.1.out.length=s.out.length/\x.2.1.paths.length=s.paths.length/\x.2.2.1.length+x.2.2.2.length<=a.length+b.length+x.1},
   fun | ⟨(i,t,a',b'),_⟩=>hsP [1000,1001,1002,1003,1004,1005,1006,1007,1008,1009] 51 [(0,.ptr 1000 0),(2,i64 1),(15,i64 s.out.length),(16,i64 i)] (xcc t a' b' 1001 1002 1003 1004 1005 1006 1007 900 901 [(1008,.dead),(1009,.dead)]),fun x=>s.out.length-x.1.1,⟨(0,s,a,b),by omega,rfl,rfl,rfl,by dsimp only;omega⟩,?_,?_⟩
  . exact (zcb (zhz [(900,some 1008),(901,some 1009)]) zz2)
  rintro ⟨⟨i,t,a',b'⟩,k1,k2,k3,k4,k5⟩;dsimp only at k1 k2 k3 k4 k5;(conv=>whnf);by_cases hi:i<s.out.length
  case pos =>
   obtain ⟨x,hx⟩:∃ x,t.out[i]?=some x:=⟨_,zy3 zz0⟩
   obtain ⟨w,hw⟩:∃ w,t.paths[1]?=some w:=⟨_,zy3 zz0⟩
   have hst:=zij (zdh 1) ⟨s,[a,b]⟩ i;rw [k2] at hst;have hno:=zoz (o:=[a',b']) (c:=1) hx hw;have hyes:=zlx (o:=[a',b']) (c:=1) (l:=b') hx hw rfl;refine sT ?_;refine sO ?_;refine zam hx rfl (zw ?_);by_cases d1:x.state=3
   case neg =>
    exact yy74
   refine zac ?_ ?_
   . simpa using d1
   (conv=>whnf);refine sOm ?_;refine zam hw rfl (zw ?_)
   (refine cL ?_;refine dL (Paths.zkl w) ?_)
   by_cases d2:w.zba<w.window
   case neg =>
    exact yy75
   refine zac ?_ ?_
   . simpa using d2
   conv=>whnf
   repeat refine sG ?_
   refine sOm ?_
   (refine zae [] [(1000,1000),(1001,1001),(1002,1002),(1003,1003),(1004,1004),(1005,1005),(1006,1006),(1007,1007),(1008,900),(1009,901)] [(0,920)] ?_;(conv=>whnf);refine dG (zos t a' b' i x w hx hw zz0) ?_)
   refine sF ?_;exact ⟨⟨(i+1,zxg t i 1 x w,a',b'++[x.chunk]),by dsimp only;omega,by rw [hst,hyes ⟨d1,d2⟩];rfl,by show (t.out.set i _).length=_;rw [zy26];exact k3,by show (t.paths.set 1 _).length=_;rw [zy26];exact k4,by simp;omega⟩,(zcb (zhz ((900,some 900)::[(901,some 920)])) zz2),by dsimp only;omega⟩
  case neg =>
   exact yy133
end Snd
theorem yak {rows ys:List (List PV)} {z:List PV} {i j a k m:Nat} (hij:i<=j) (hj:j<=rows.length) (ha:a=i) (hy:ys=(rows.drop j).take (rows.length-j)) (hk:k=i+ys.length) (hm:m=j-i) (_:i+ys.length+(j-i)=rows.length) :
 zcv (zcv rows a ys) k (List.replicate m z)=rows.take i++rows.drop j++List.replicate (j-i) z:=by
 subst ha hm;have hy2:ys=rows.drop j:=by rw [hy,zy37 (by simp)]
 have h1:ys.length=rows.length-j:=by rw [hy2];simp
 have h2:(rows.take a).length=a:=by simp;omega
 have h3:zcv rows a ys=(rows.take a++ys)++rows.drop k:=by rw [zcv,hk]
 have h4:(rows.take a++ys).length=k:=by simp;omega
 rw [zcv,h3,zy87 h4,zy19 (by simp only [zy8,zy38,zy70,h2];omega),zy4,hy2]
theorem yyy {rows ys zs:List (List PV)} {a b k:Nat} (hk:k<rows.length) (ha:a=k+1) (hy:ys=rows.drop k) (hb:b=k) (hz:zs.length=1):zcv (zcv rows a ys) b zs=rows.take k++zs++rows.drop k:=by
 subst ha hy hb;have h1:zcv rows (b+1) (rows.drop b)=rows.take (b+1)++rows.drop b:=by
  rw [zcv,zy19 (i:=b+1+(rows.drop b).length) (by simp;omega),zy4]
 have h2:(rows.take (b+1)).length=b+1:=by simp;omega
 rw [zcv,h1,hz,List.drop_left' h2,zy76 (by omega),List.take_take,Nat.min_eq_left (by omega)]
theorem yyx {rows ys zs:List (List PV)} {z:List PV} {a b k m:Nat} (hk:k<rows.length) (hm:m=rows.length+1-k) (ha:a=k) (hz:zs.length=1) (hb:b=k+1) (hy:ys=rows.drop k) :
 zcv (zcv (rows.take k++List.replicate m z) a zs) b ys=rows.take k++zs++rows.drop k:=by
 subst hm ha hb hy;have h1:(rows.take a).length=a:=by simp;omega
 have h2:zcv (rows.take a++List.replicate (rows.length+1-a) z) a zs=(rows.take a++zs)++(rows.take a++List.replicate (rows.length+1-a) z).drop (a+1):=by
  rw [zcv,zy87 h1,hz]
 have h3:(rows.take a++zs).length=a+1:=by simp;omega
 rw [zcv,h2,zy87 h3,zy19 (i:=a+1+_) (by simp;omega),zy4]
theorem xit {α:Type} {f:α->List PV} {v:α} {m:Nat} {l r:List α} (h:0<m):(l.map f++[f v].take m)++r.map f=(l++v::r).map f:=by
 rw [zy37 (by simp;omega),zy33,zy35,zy27];rfl
theorem xgp {α:Type} {f:α->List PV} {v:α} {m k:Nat} {l:List α} (h:0<m):(l.map f).take k++[f v].take m++(l.map f).drop k=(l.take k++v::l.drop k).map f:=by
 rw [<- zy124,<- zy104];exact xit h
def zuq (cmp:Span->Int) (l:List Span) (K:Nat):Bool:=match l[K]? with | some s=>cmp s==0 | none=>false
theorem xen {g:FuncId} {cmp:Span->Int} {n:Int} (hg:∀ m:Span,zan Tryz.prog g [m.hv,i64 n] zad (i64 (cmp m)) zad) (l:List Span) (K:Nat) (hK:K<=l.length) (hm:∀ (i:Nat) (h:i<l.length),cmp l[i]<0↔i<K) (hb:l.length<2 ^ 40) :
 zan Tryz.prog 195 [Ser.zas l,i64 n,.clo g []] zad (.tup [i64 K,zbj (zuq cmp l K)]) zad:=by
 refine zal mixed Tryz.func195 zz4 ?_;(conv=>whnf);refine ⟨{x:Nat×Nat // x.1<=K/\K<=x.2/\x.2<=l.length},fun | ⟨(i,j),_⟩=>hs 49 [(0,Ser.zas l),(1,i64 n),(2,.clo g []),(8,i64 l.length),(9,i64 i),(10,i64 j)] [],fun x=>x.1.2-x.1.1,⟨(0,l.length),by simp,hK,zy23 _⟩,?_,?_⟩
 . exact (zbi [])
 rintro ⟨⟨i,j⟩,h1,h2,h3⟩;dsimp only at h1 h2 h3;(conv=>whnf);by_cases c:i<j
 . have hlt:(i+j) / 2<l.length:=by omega
   refine sT ?_;refine sF ?_;refine zbv (zui zz0 zz0) (zw ?_);refine zaa zz4 (zw ?_);refine zbv (z':=(((i+j) / 2:Nat):Int)) ?_ ?_
   . show W (((i:Int)+j) / 2)=_
     rw [zbu (by omega) (by omega)];omega
   (conv=>whnf);refine zbz ((i+j) / 2) rfl hlt (zw ?_)
   (refine cZ ?_;refine dL (hg l[(i+j) / 2]) ?_)
   by_cases c2:cmp l[(i+j) / 2]<0
   . have hk:=(hm _ hlt).1 c2
     refine sT ?_;refine sF ?_;exact ⟨⟨((i+j) / 2+1,j),hk,h2,h3⟩,(zbi []),by dsimp only;omega⟩
   . have hk:¬ (i+j) / 2<K:=fun h=>c2 ((hm _ hlt).2 h)
     refine sN ?_;exact ⟨⟨(i,(i+j) / 2),h1,by dsimp only;omega,by dsimp only;omega⟩,(zbi []),by dsimp only;omega⟩
 . have hi:i=K:=by omega
   subst hi;refine sN ?_;by_cases c2:i<l.length
   . refine sT ?_
     refine zbz i rfl c2 (zw ?_)
     (refine cZ ?_;refine dL (hg l[i]) ?_)
     rw [zuq,zy3 c2]
   . refine sN ?_
     rw [zuq,zy50 (by omega)]
theorem ypg (l:List Span) (i j:Nat) (hij:i<=j) (hj:j<=l.length) (hb:l.length<2 ^ 40) :
 zan Tryz.prog 198 [.osl 1000 2 0 (l.map Span.row).length,i64 i,i64 j] (lk .free [(1000,.live (.row 199 2 (l.map Span.row)))])
  (.osl 1000 2 0 (l.length-(j-i))) (lk .free [(1000,.live (.row 199 2 ((l.take i++l.drop j).map Span.row++List.replicate (j-i) [pi 0,pi 0])))]):=by
 refine zap mixed Tryz.func198 zz4 [1000] zbq ?_;have hlr:(l.map Span.row).length=l.length:=by simp
 (conv=>whnf);refine sO ?_;by_cases h:i=j
 . subst h
   refine sT ?_;refine zao [(1000,some 1000)] rfl rfl ⟨rfl,trivial⟩ rfl ?_ ⟨⟨rfl,.inl ⟨1000,rfl,?_⟩⟩,trivial⟩
   . show HV.osl 1000 2 0 (l.length-(i-i))=HV.osl 1000 2 0 (l.map Span.row).length
     rw [hlr,zy95];rfl
   . show zai.live (.row _ 2 (l.map Span.row))=zai.live (.row _ 2 _)
     rw [zy31,zy95,zy120,zy4]
 . refine sN ?_
   refine sO ?_;refine sO ?_;refine ⟨_,rfl,?_,?_⟩
   . rw [hlr];omega
   (conv=>whnf);refine zaa zz3 ?_;(conv=>whnf);refine zaw ?_ ?_
   . kernel_rfl
   (conv=>whnf);refine zaa zz62 ?_;(conv=>whnf);refine zaa zz62 ?_;(conv=>whnf);refine zao [(1000,some 1000)] rfl rfl ⟨rfl,trivial⟩ rfl ?_ ⟨⟨rfl,.inl ⟨1000,rfl,?_⟩⟩,trivial⟩
   . show HV.osl 1000 2 0 _=HV.osl 1000 2 0 _
     congr 1;simp;omega
   . refine (congrArg (fun r=>zai.live (.row _ 2 r)) (yak (rows:=l.map Span.row) (i:=i) (j:=j) (z:=[pi 0,pi 0]) hij (by rw [hlr];exact hj) ?_ ?_ ?_ ?_ ?_)).trans ?_
     . simp<;>omega
     . simp<;>omega
     . simp<;>omega
     . simp;omega
     . simp;omega
     . rw [zy33,zy124,zy104];rfl
theorem yyd (l:List Span) (i j:Nat) (hij:i<=j) (hj:j<=l.length) (hb:l.length<2 ^ 40) :
 zan Tryz.prog 198 [.own 1000,i64 i,i64 j] (lk .free [(1000,.live (.row 199 2 (l.map Span.row)))])
  (.own 0) (lk .free [(1000,.dead),(0,.live (.row 199 2 ((l.take i++l.drop j).map Span.row)))]):=by
 have h:=zkb (d:=0) (L:=[]) (rows:=(l.take i++l.drop j).map Span.row++List.replicate (j-i) [pi 0,pi 0]) (zvb (ypg l i j hij hj hb)) (.inl rfl) zz3 rfl zz4
 rwa [zy87 zz3] at h
theorem zje (a b:List Span) (x:Span) (i j:Int) (hi:i=a.length) (hj:j=a.length+1) (hb:(a++x::b).length<2 ^ 40) :
 zan Tryz.prog 198 [.own 1000,i64 i,i64 j] (lk .free [(1000,.live (.row 199 2 ((a++x::b).map Span.row)))])
  (.own 0) (lk .free [(1000,.dead),(0,.live (.row 199 2 ((a++b).map Span.row)))]):=by
 subst hi hj;have h:=yyd (a++x::b) a.length (a.length+1) zz0 zz5 hb
 rwa [zy133,show (a++x::b).drop (a.length+1)=b by rw [<- zy145,zy105];rfl,zy126] at h
theorem yiw {inp out:List Span} (a b:List Span) (x:Span) (i j:Int) (h1:inp=a++x::b) (h2:out=a++b) (hi:i=a.length) (hj:j=a.length+1) (hb:inp.length<2 ^ 40) :
 zan Tryz.prog 198 [.own 1000,i64 i,i64 j] (lk .free [(1000,.live (.row 199 2 (inp.map Span.row)))])
  (.own 0) (lk .free [(1000,.dead),(0,.live (.row 199 2 (out.map Span.row)))]):=by
 subst h1 h2;exact zje a b x i j hi hj hb
theorem xeb {H:Nat->zai} {i1 i2 n o l:Nat} {t1 n1 t2 n2 c:Nat} {r1 r2:List (List PV)} (h1:H i1=.live (.row t1 n1 r1)) (h2:H i2=.live (.buf t2 n2 r2 c)) (hne:i1≠i2) :
 Ov Tryz.prog 204 [.own i1,.osl i2 n o l] H ⟨zbj false,[],[i1,i2]⟩:=by
 obtain ⟨inf,hi,hs⟩:=zy29.1 (show (Tryz.prog.info? 199).map (·.size)=some 2 by kernel_rfl);exact ⟨Tryz.f204,199,inf,_,_,i1,i2,_,_,Tryz.func204,rfl,by decide,by kernel_rfl,by kernel_rfl,⟨33,rfl,by kernel_rfl⟩,hi,by rw [hs];decide,rfl,.inl rfl,.inr ⟨_,_,_,rfl⟩,hne,h1,h2,by simp,by simp,rfl⟩
theorem yfi (l:List Span) (v:Span) (hb:l.length<2 ^ 40) :
 zan Tryz.prog 197 [.own 1000,i64 l.length,.own 1001] (lk .free [(1000,.live (.row 199 2 (l.map Span.row))),(1001,.live (.row 199 2 [v.row]))])
  (.own 0) (lk .free [(1000,.dead),(0,.live (.row 199 2 ((l++[v]).map Span.row))),(1001,.dead)]):=by
 refine zap mixed Tryz.func197 zz4 [1000,1001] (fun i=>by rcases zbq (L:=[(1000,zai.live (.row 199 2 (l.map Span.row))),(1001,.live (.row 199 2 [v.row]))]) i with h | h;exact .inl h;exact .inr h) ?_;have hlr:(l.map Span.row).length=l.length:=by simp
 (conv=>whnf);refine sO ?_;refine sT ?_;refine zaa (c:=((l.map Span.row).length+[v.row].length)*16<=140737488355328) zz3 (zw ?_);refine zao [(1000,some 1000),(0,some 25),(1001,some 1001)] rfl rfl ⟨rfl,rfl,trivial⟩ rfl rfl ⟨rfl,⟨rfl,.inl ⟨25,rfl,?_⟩⟩,rfl,trivial⟩;exact zbc (f:=Span.row) rfl rfl
theorem yfj (l:List Span) (k:Nat) (v:Span) (hk:k<l.length) (hb:l.length<2 ^ 40) :
 zan Tryz.prog 197 [.own 1000,i64 k,.own 1001] (lk .free [(1000,.live (.row 199 2 (l.map Span.row))),(1001,.live (.row 199 2 [v.row]))])
  (.own 0) (lk .free [(1000,.dead),(0,.live (.row 199 2 ((l.take k++v::l.drop k).map Span.row))),(1001,.dead)]):=by
 have hlr:(l.map Span.row).length=l.length:=by simp
 refine yte (by intro h;rw [h] at hlr;simp at hlr;omega) fun cap hc1 hc2=>?_
 rw [hlr] at hc1;by_cases hc:l.length+1<=cap
 . have hw:=zkb (P:=Tryz.prog) (f:=197) (args:=[.osl 1000 2 0 (l.map Span.row).length,i64 k,.own 1001]) (H:=lk .free [(1000,.live (.buf 199 2 (l.map Span.row) cap)),(1001,.live (.row 199 2 [v.row]))])
    (id:=1000) (d:=0) (b:=.buf 199 2 ((l.take k++v::l.drop k).map Span.row) cap) (t:=199) (n:=2) (k:=l.length+1) (rows:=(l.take k++v::l.drop k).map Span.row) (L:=[(1001,.dead)]) ?_ (.inr ⟨cap,rfl⟩) zz3 rfl zz4
   . rwa [zy37 zz3] at hw
   refine zap mixed Tryz.func197 zz4 [1000,1001] (fun i=>by rcases zbq (L:=[(1000,zai.live (.buf 199 2 (l.map Span.row) cap)),(1001,.live (.row 199 2 [v.row]))]) i with h | h;exact .inl h;exact .inr h) ?_;(conv=>whnf);refine sO ?_;refine sN ?_;refine zaq (z:=((l.map Span.row).length:Int)+1) (zbu zz0 zz0) (zw ?_);refine zaa zz0 (zw ?_);refine sN ?_;refine zaq (z:=((l.map Span.row).length:Int)+1) (zbu zz0 zz0) (zw ?_);refine sO ?_;refine zbv (z':=((k+1:Nat):Int)) ?_ ?_
   . show W ((k:Int)+1)=_
     rw [zbu (by omega) (by omega)];push_cast;rfl
   (conv=>whnf);refine sO ?_;refine yym (xeb rfl rfl zz4) (zw ?_);refine zbv (z':=((k+1:Nat):Int)) ?_ ?_
   . show W ((k:Int)+1)=_
     rw [zbu (by omega) (by omega)];push_cast;rfl
   (conv=>whnf);refine sO ?_;refine sO ?_;refine zha (o':=k) (n':=l.length-k) zz5 ?_ ?_
   . show min _ _=l.length-k
     simp;omega
   refine zfh (l:=l) zz0 ?_;(conv=>whnf);refine sOm ?_;refine zaw ?_ ?_
   . kernel_rfl
   (conv=>whnf);refine sO ?_;refine zaa zz62 (zw ?_);refine zao [(1000,some 1000),(1001,some 1001)] rfl rfl ⟨rfl,rfl,trivial⟩ rfl ?_ ⟨⟨rfl,.inl ⟨1000,rfl,?_⟩⟩,rfl,trivial⟩
   . show HV.osl 1000 2 0 _=HV.osl 1000 2 0 _
     congr 1;simp
   . refine (congrArg (fun r=>zai.live (.buf _ 2 r cap)) (yyy (rows:=l.map Span.row) (k:=k) zz0 ?_ ?_ ?_ ?_)).trans ?_
     . simp<;>omega
     . rw [zy104]
     . simp<;>omega
     . simp<;>omega
     . refine congrArg (fun r=>zai.live (.buf _ 2 r cap)) (xgp (f:=Span.row) ?_)
       simp;omega
 . refine zap mixed Tryz.func197 zz4 [1000,1001] (fun i=>by rcases zbq (L:=[(1000,zai.live (.buf 199 2 (l.map Span.row) cap)),(1001,.live (.row 199 2 [v.row]))]) i with h | h;exact .inl h;exact .inr h) ?_
   (conv=>whnf);refine sO ?_;refine sN ?_;refine zaq (z:=((l.map Span.row).length:Int)+1) (zbu zz0 zz0) (zw ?_);refine zaa zz0 (zw ?_);refine sT ?_;refine sO ?_;refine zaq (z:=((l.map Span.row).length:Int)+1) (zbu zz0 zz0) (zw ?_);refine zbv (z':=((l.length+1-k:Nat):Int)) ?_ ?_
   . show W (((l.map Span.row).length:Int)+1-k)=_
     rw [zbu (by omega) (by omega)];omega
   (conv=>whnf);refine zaa (show 0<=_/\_<=_/\_<_/\_<=_/\(_:Int)*16<=(140737488355328:Int) from ?_) ?_
   . simp;omega
   (conv=>whnf);refine zaa ?_ ?_
   . simp;omega
   (conv=>whnf);refine zaa zz62 (zw ?_);refine zbv (z':=((k+1:Nat):Int)) ?_ ?_
   . show W ((k:Int)+1)=_
     rw [zbu (by omega) (by omega)];push_cast;rfl
   (conv=>whnf);refine zaa zz62 (zw ?_);refine zaa zz62 (zw ?_);refine zha (o':=k) (n':=l.length-k) zz5 ?_ ?_
   . show min _ _=l.length-k
     simp [zcv];omega
   refine zfh (l:=l) zz0 ?_;(conv=>whnf);refine zaa zz62 (zw ?_);refine zaw ?_ ?_
   . kernel_rfl
   (conv=>whnf);refine zao [(1000,some 1000),(0,some 40),(1001,some 1001)] rfl rfl ⟨rfl,rfl,trivial⟩ rfl rfl ⟨rfl,⟨rfl,.inl ⟨40,rfl,?_⟩⟩,rfl,trivial⟩;refine (congrArg (fun r=>zai.live (.row _ 2 r)) (yyx (rows:=l.map Span.row) (k:=k) zz0 ?_ ?_ ?_ ?_ ?_)).trans ?_
   . simp
   . simp
   . simp;omega
   . simp
   . rw [zy104]
   . refine congrArg (fun r=>zai.live (.row _ 2 r)) (xgp (f:=Span.row) ?_)
     simp;omega
theorem yjv (a b:List Span) (v:Span) (k:Int) (hk:k=a.length) (hb:(a++b).length<2 ^ 40) :
 zan Tryz.prog 197 [.own 1000,i64 k,.own 1001] (lk .free [(1000,.live (.row 199 2 ((a++b).map Span.row))),(1001,.live (.row 199 2 [v.row]))])
  (.own 0) (lk .free [(1000,.dead),(0,.live (.row 199 2 ((a++v::b).map Span.row))),(1001,.dead)]):=by
 subst hk;cases b with
 | nil =>
  rw [zy4] at hb ⊢;exact yfi a v hb
 | cons x b =>
  have h:=yfj (a++x::b) a.length v zz5 hb
  rwa [zy133,zy105] at h
namespace Snd
open Ser
theorem xfn (l:List zak) (i j:Nat) (hij:i<=j) (hj:j<=l.length) (hb:l.length<2 ^ 40) :
 zan Tryz.prog 139 [.osl 1000 10 0 (l.map zak.row).length,i64 i,i64 j] (lk .free [(1000,.live (.row 117 10 (l.map zak.row)))])
  (.osl 1000 10 0 (l.length-(j-i))) (lk .free [(1000,.live (.row 117 10 ((l.take i++l.drop j).map zak.row++List.replicate (j-i) [pi 0,pi 0,pi 0,pi 0,pi 0,pi 0,pb false,pi 0,pi 0,.v (.slice none 0 0)])))]):=by
 refine zap mixed Tryz.func139 zz4 [1000] zbq ?_;have hlr:(l.map zak.row).length=l.length:=by simp
 (conv=>whnf);refine sO ?_;by_cases h:i=j
 . subst h
   refine sT ?_;refine zao [(1000,some 1000)] rfl rfl ⟨rfl,trivial⟩ rfl ?_ ⟨⟨rfl,.inl ⟨1000,rfl,?_⟩⟩,trivial⟩
   . show HV.osl 1000 10 0 (l.length-(i-i))=HV.osl 1000 10 0 (l.map zak.row).length
     rw [hlr,zy95];rfl
   . show zai.live (.row _ 10 (l.map zak.row))=zai.live (.row _ 10 _)
     rw [zy31,zy95,zy120,zy4]
 . refine sN ?_
   refine sO ?_;refine sO ?_;refine ⟨_,rfl,?_,?_⟩
   . rw [hlr];omega
   (conv=>whnf);refine zaa zz3 ?_;(conv=>whnf);refine zaw ?_ ?_
   . kernel_rfl
   (conv=>whnf);refine zaa zz62 ?_;(conv=>whnf);refine zaa zz62 ?_;(conv=>whnf);refine zao [(1000,some 1000)] rfl rfl ⟨rfl,trivial⟩ rfl ?_ ⟨⟨rfl,.inl ⟨1000,rfl,?_⟩⟩,trivial⟩
   . show HV.osl 1000 10 0 _=HV.osl 1000 10 0 _
     congr 1;simp;omega
   . refine (congrArg (fun r=>zai.live (.row _ 10 r)) (yak (rows:=l.map zak.row) (i:=i) (j:=j) (z:=[pi 0,pi 0,pi 0,pi 0,pi 0,pi 0,pb false,pi 0,pi 0,.v (.slice none 0 0)]) hij (by rw [hlr];exact hj) ?_ ?_ ?_ ?_ ?_)).trans ?_
     . simp<;>omega
     . simp<;>omega
     . simp<;>omega
     . simp;omega
     . simp;omega
     . rw [zy33,zy124,zy104];rfl
theorem xex (l:List zak) (i j:Nat) (hij:i<=j) (hj:j<=l.length) (hb:l.length<2 ^ 40) :
 zan Tryz.prog 139 [.own 1000,i64 i,i64 j] (lk .free [(1000,.live (.row 117 10 (l.map zak.row)))])
  (.own 0) (lk .free [(1000,.dead),(0,.live (.row 117 10 ((l.take i++l.drop j).map zak.row)))]):=by
 have h:=zkb (d:=0) (L:=[]) (rows:=(l.take i++l.drop j).map zak.row++List.replicate (j-i) [pi 0,pi 0,pi 0,pi 0,pi 0,pi 0,pb false,pi 0,pi 0,.v (.slice none 0 0)]) (zvb (xfn l i j hij hj hb)) (.inl rfl) zz3 rfl zz4
 rwa [zy87 zz3] at h
theorem zkj (s:zhr) (m:zak) (bytes:Int) (zxl:Bool) (hb:s.had.length<2 ^ 40) (c2:0<=m.message.stream) (c3:m.message.stream<s.had.length) :
 zan Tryz.prog 138 [s.hv,m.hv,i64 bytes,zbj zxl] zad (.agg [i64 (Sch.had s m bytes zxl).last,i64 (Sch.had s m bytes zxl).hand,.own 0]) (lk .free [(0,zxc (Sch.had s m bytes zxl).had)]):=by
 have hy:(s.had.map fun n=>[pi n]).set m.message.stream.toNat [pi (W (s.had[m.message.stream.toNat]+bytes))]=(Sch.had s m bytes zxl).had.map fun n=>[pi n]:=by
  simp only [Sch.had,zy1 (And.intro c2 c3)];rw [zy61,zy3 (by omega)]
  rfl
 refine zap mixed Tryz.func138 zz4 [] (fun _=>.inl rfl) ?_;(conv=>whnf)
 (refine zat [(0,11)] ?_;(conv=>whnf);refine dO (Sch.zdt s hb) ?_)
 refine sD ?_;refine zaf (fun c1=>?_) (fun c1=>?_)
 all_goals
  subst c1;(conv=>whnf)
  repeat refine sG ?_
  refine zac ?_ ?_
  . simpa using c2
  (conv=>whnf);refine zac ?_ ?_
  . simpa using c3
  conv=>whnf
  repeat refine sG ?_
  refine sOm ?_;refine zcc (r:=[pi s.had[m.message.stream.toNat]]) zz0 (by rw [zy22,zy17,zy3 (h:=show m.message.stream.toNat<s.had.length by omega)];rfl) ?_;(conv=>whnf);refine zce (zw ?_);refine sOm ?_;refine zcc (r:=[pi s.had[m.message.stream.toNat]]) zz0 (by rw [zy22,zy17,zy3 (h:=show m.message.stream.toNat<s.had.length by omega)];rfl) ?_;(conv=>whnf);refine zao [(0,some 11)] rfl rfl trivial rfl rfl ⟨⟨rfl,.inl ⟨11,rfl,?_⟩⟩,trivial⟩;exact zar hy
theorem yub {α:Type} {p:α->Bool}:∀ {l:List α} {k:Nat},0<=zch p k l->∃ i,i<l.length/\zch p k l=((k+i:Nat):Int)
 | [],k,h=>by simp [zch] at h
 | y::r,k,h=>by
  simp only [zch] at h ⊢;split at h
  . rename_i hp;exact ⟨0,by simp,by rw [zy1 hp];simp⟩
  . rename_i hp
    obtain ⟨i,h1,h2⟩:=yub h;exact ⟨i+1,by simp;omega,by rw [zy0 hp,h2];congr 1;omega⟩
theorem ycy {t:Int} {s:zhr} {q:List zak} (h:0<=Sch.next t s q):∃ k:Nat,k<q.length/\Sch.next t s q=k:=by
 have hf:∀ st,0<=Sch.first q st->∃ k:Nat,k<q.length/\Sch.first q st=k:=fun st h=>by
  obtain ⟨i,h1,h2⟩:=yub h;exact ⟨i,h1,by rw [Sch.first,h2];simp⟩
 have ha:∀ (j k:Nat) (last n:Int),0<=Sch.after q last n k j->∃ i:Nat,i<q.length/\Sch.after q last n k j=i:=by
  intro j
  induction j with
  | zero=>intro k last n h;simp [Sch.after] at h
  | succ j ih =>
   intro k last n h;rw [Sch.after] at h ⊢;split at h
   . rename_i c;rw [zy1 c];exact hf _ h
   . rename_i c;rw [zy0 c];exact ih _ _ _ h
 have hr:∀ (j k:Nat),0<=Sch.zgr q k j->∃ i:Nat,i<q.length/\Sch.zgr q k j=i:=by
  intro j
  induction j with
  | zero=>intro k h;simp [Sch.zgr] at h
  | succ j ih =>
   intro k h;rw [Sch.zgr] at h ⊢;split at h
   . rename_i c;rw [zy1 c];exact hf _ h
   . rename_i c;rw [zy0 c];exact ih _ h
 unfold Sch.next at h ⊢;split at h
 . omega
 rename_i c0;rw [zy0 c0];split at h
 . omega
 rename_i c1;rw [zy0 c1];split at h
 . rename_i c;rw [zy1 c]
   split at h
   . rename_i c;rw [zy1 c];obtain ⟨i,h1,h2⟩:=yub h;exact ⟨i,h1,by rw [Sch.zpr,h2];simp⟩
   . rename_i c;rw [zy0 c];exact ha _ _ _ _ h
 rename_i c;rw [zy0 c];split at h
 . rename_i c;rw [zy1 c];exact ha _ _ _ _ h
 rename_i c;rw [zy0 c];split at h
 . rename_i c;rw [zy1 c];exact hr _ _ h
 rename_i c;rw [zy0 c];split at h
 . rename_i c;rw [zy1 c];unfold Sch.least at h ⊢
   split at h
   . omega
   . rename_i c;rw [zy0 c];exact hf _ h
 . rename_i c;rw [zy0 c];exact ⟨0,by omega,rfl⟩
structure zug (s:zah) (m:zak):Prop where
 mid:xhl s m
 had:m.message.stream<s.sched.had.length
 sent:0<=m.sent
 left:m.sent<m.message.data.length
 data:m.message.data.length<2 ^ 30
structure xev (s:zah):Prop where
 g:ylj s
 some:0<s.paths.length
 part:1<=s.config.part
 part2:s.config.part<2 ^ 30
 msg:∀ m∈s.queue,zug s m
def nx (s:zah) (o:List (List Chunk)):zfl×Bool:=match next ⟨s,o⟩ with
 | none=>(⟨s,o⟩,false)
 | some q=>(q,true)
theorem ynq {s:zah} {o:List (List Chunk)} (h:zei s<0):nx s o=(⟨s,o⟩,false):=by
 rw [nx,next,zy1 (.inl h)]
theorem ynr {s:zah} {o:List (List Chunk)} {w:Path} (hw:s.paths[choose s]?=some w) (h:¬ w.zba<w.window):nx s o=(⟨s,o⟩,false):=by
 rw [nx,next,zy1 (.inr (.inl (by simp only [opened,hw];simpa using h)))]
theorem yns {s:zah} {o:List (List Chunk)} (h:(s.out.length:Int)>=60):nx s o=(⟨s,o⟩,false):=by
 rw [nx,next,zy1 (.inr (.inr h))]
theorem ynt {s:zah} {o:List (List Chunk)} {w:Path} {k:Nat} {m:zak} (h1:zei s=k) (hm:s.queue[k]?=some m) (hw:s.paths[choose s]?=some w) (h2:w.zba<w.window) (h3:¬ (s.out.length:Int)>=60) (h4:zba s>0/\W (zba s+many s m)>s.room) :
 nx s o=(⟨s,o⟩,false):=by
 rw [nx,next,zy0 (by rw [h1];rintro (h | h | h);omega;(simp only [opened,hw] at h;simp at h;omega);exact h3 h)];simp only [h1,zy22,hm];rw [zy1 h4]
theorem zvo {s:zah} {o:List (List Chunk)} {w:Path} {k:Nat} {m:zak} (h1:zei s=k) (hm:s.queue[k]?=some m) (hw:s.paths[choose s]?=some w) (h2:w.zba<w.window) (h3:¬ (s.out.length:Int)>=60) (h4:¬ (zba s>0/\W (zba s+many s m)>s.room)) :
 nx s o=(zlr ⟨s,o⟩ k m (many s m),true):=by
 rw [nx,next,zy0 (by rw [h1];rintro (h | h | h);omega;(simp only [opened,hw] at h;simp at h;omega);exact h3 h)];simp only [h1,zy22,hm];rw [zy0 h4]
theorem zrh {s:zah} {m:zak} (hp:1<=s.config.part) (hp2:s.config.part<2 ^ 30) (_:0<=m.sent) (h2:m.sent<m.message.data.length) (_:m.message.data.length<2 ^ 30):1<=many s m/\many s m<2 ^ 30/\m.sent+many s m<=m.message.data.length:=by
 unfold many;split<;>omega
abbrev ovr (s:zah) (m:zak):Bool:=m.sent+many s m==((m.message.data.map zcp).length:Int)
theorem xbx (s:zah) (m:zak):decide (m.sent+many s m=m.message.data.length)=ovr s m:=by
 unfold ovr;rw [zy2,zy110];simp
def m2 (s:zah) (m:zak):zak:={m with mid:=zdf s m,sent:=m.sent+many s m,parts:=W (m.parts+1)}
def x0 (s:zah) (m:zak):zbo:=⟨s.next,m.id,0,0,0,0,m.came,m.message.life,m.message.tries,⟨1,tag s.next,m.message.stream,tag (zdf s m),m.parts,ovr s m,m.message.ordered,(m.message.data.drop m.sent.toNat).take (many s m).toNat,[],0,[]⟩⟩
def s2 (s:zah) (k:Nat) (m:zak):zah:={s with mids:=zds s m,sched:=Sch.had s.sched {m with mid:=zdf s m} (many s m) (ovr s m),out:=s.out++[x0 s m],next:=W (s.next+1),queue:=s.queue.set k (m2 s m)}
theorem zft {s:zah} {o:List (List Chunk)} {k c:Nat} {m:zak} {w:Path} {l:List Chunk} (hc:choose s=c) (hw:s.paths[c]?=some w) (hl:o[c]?=some l) :
 zlr ⟨s,o⟩ k m (many s m)=⟨{zxg (s2 s k m) s.out.length c (x0 s m) w with queue:=if ovr s m then s.queue.eraseIdx k else s.queue.set k (m2 s m)},o.set c (l++[(x0 s m).chunk])⟩:=by
 have e:=xbx s m;unfold zlr cut;simp only [e];rw [hc];exact zyc (s:={s2 s k m with queue:=if ovr s m then s.queue.eraseIdx k else s.queue.set k (m2 s m)}) (i:=s.out.length) (x:=x0 s m) (a:=w) (l:=l) zz134 hw hl
theorem yqg {s:zah} {k:Nat} {m:zak} {t:TypeId} {r1:List PV}:zai.live (.row t 10 ((((ziu s k m).queue.map zak.row).set k r1).set k (m2 s m).row))=zai.live (.row t 10 ((s2 s k m).queue.map zak.row)):=by
 rw [zy141];exact (zfc (f:=zak.row) (y:=m2 s m) rfl).trans (zar (by show ((s.queue.set k _).set k _).map _=_;rw [zy141];rfl))
theorem zka {α:Type} {l:List α} {k:Nat} {y:α} (_:k<l.length):(l.set k y).take k++(l.set k y).drop (k+1)=l.eraseIdx k:=by
 rw [zy60,List.take_set_of_le (zy23 _),List.drop_set_of_lt (zy151 _)]
theorem zry (s:zah) (a:List Chunk) (hs:xev s) (h1p:s.paths.length=1) (hb:a.length<2 ^ 29):zan Tryz.prog 96 [.ptr 1000 0] (lk .free (pH1 s a)) (zbj (nx s [a]).2) (lk .free (pD1 (nx s [a]).1.s (yfw (nx s [a]).1.out))):=by
 obtain ⟨g,hp,hp1,hp2,hmsg⟩:=hs;obtain ⟨⟨f1,f2,f3,f4,f5,f6,f7⟩,g2,g3,g4⟩:=g;obtain ⟨hch,hch2⟩:=zdm hp;have hc0:choose s=0:=by omega
 have pc:=Paths.zeq s.paths zz0;rw [hch,hc0] at pc;have pn:=Sch.zwk s.config.turns s.sched s.queue zz0 zz0;obtain ⟨w,hw⟩:∃ w,s.paths[0]?=some w:=⟨_,zy3 zz0⟩
 have hwc:s.paths[choose s]?=some w:=by rw [hc0];exact hw
 generalize hG:nx s [a]=G;refine zap mixed Tryz.func96 zz4 [1000,1001,1002,1003,1004,1005,1006,1007,1008] zbq ?_;(conv=>whnf)
 (refine cL ?_;refine dL pc ?_)
 by_cases c1:zei s<0
 case pos =>
  (refine cL ?_;refine dL pn ?_)
  refine sD ?_;refine zac ?_ ?_
  . exact zy10 c1
  (conv=>whnf);rw [ynq c1] at hG;exact yy38
 obtain ⟨k,hkl,hke⟩:=ycy (t:=s.config.turns) (s:=s.sched) (q:=s.queue) zz129;have hke':zei s=k:=hke;rw [hke] at pn;obtain ⟨m,hm⟩:∃ m,s.queue[k]?=some m:=⟨_,zy3 hkl⟩
 have hmf:=hmsg m (zy21 hm);obtain ⟨mf,mh,ms,ml,md⟩:=hmf;obtain ⟨n1,n2,n3⟩:=zrh (s:=s) (m:=m) hp1 hp2 ms ml md
 (refine cL ?_;refine dL pn ?_)
 refine sD ?_
 try (refine zab ?_ ?_;· simp;conv=>whnf)
 refine sOm ?_;refine zam hw rfl (zw ?_)
 (refine cL ?_;refine dL (Paths.zkl w) ?_)
 by_cases c2:w.zba<w.window
 case neg =>
  refine zac ?_ ?_
  . simpa using c2
  (conv=>whnf);rw [ynr hwc c2] at hG;exact yy38
 refine zab ?_ ?_
 . simpa using c2
 (conv=>whnf);by_cases c3:(s.out.length:Int)>=60
 case pos =>
  refine zac ?_ ?_
  . rw [zy2];exact zy10 c3
  (conv=>whnf);rw [yns c3] at hG;exact yy38
 refine zab ?_ ?_
 . rw [zy2];exact zy11 c3
 conv=>whnf
 repeat refine sG ?_
 refine sOm ?_;refine zam hm rfl (zw ?_);refine zam hm rfl (zw ?_);refine zbv (z':=(m.message.data.length:Int)-m.sent) ?_ ?_
 . show W _=_
   rw [zy2];exact zbu zz0 zz0
 (conv=>whnf);refine sD ?_
 (refine zae [] [(1000,1000),(1001,1001),(1002,1002),(1003,1003),(1004,1004),(1005,1005),(1006,1006),(1007,1007),(1008,1008)] [] ?_;(conv=>whnf);refine dG (yhi s a f4) ?_)
 have hWs:W (m.sent+many s m)=m.sent+many s m:=zbu zz0 zz0;by_cases c4:zba s>0
 case pos =>
  refine zac ?_ ?_
  . exact zy10 c4
  (conv=>whnf);refine sR ?_;by_cases c5:W (zba s+many s m)>s.room
  case pos =>
   refine zac ?_ ?_
   . exact zy10 c5
   (conv=>whnf);rw [ynt hke' hm hwc c2 c3 ⟨c4,c5⟩] at hG;exact yy38
  refine zab ?_ ?_
  . exact zy11 c5
  conv=>whnf
  repeat refine sG ?_
  rw [zvo hke' hm hwc c2 c3 fun h=>c5 h.2] at hG;exact yy2
 refine zab ?_ ?_
 . exact zy11 c4
 conv=>whnf
 repeat refine sG ?_
 rw [zvo hke' hm hwc c2 c3 fun h=>c4 h.1] at hG;exact yy2
end Snd
namespace Snd
open Ser
theorem yhn (s:zah) (a b:List Chunk) (hs:xev s) (h1p:s.paths.length=2) (hc0:choose s=0) (hb:a.length+b.length<2 ^ 29):zan Tryz.prog 96 [.ptr 1000 0] (lk .free (pH2 s a b)) (zbj (nx s [a,b]).2) (lk .free (pD2 (nx s [a,b]).1.s (yfw (nx s [a,b]).1.out) (ynp (nx s [a,b]).1.out))):=by
 obtain ⟨g,hp,hp1,hp2,hmsg⟩:=hs;obtain ⟨⟨f1,f2,f3,f4,f5,f6,f7⟩,g2,g3,g4⟩:=g;obtain ⟨hch,hch2⟩:=zdm hp;have pc:=Paths.zeq s.paths zz0;rw [hch,hc0] at pc;have pn:=Sch.zwk s.config.turns s.sched s.queue zz0 zz0;obtain ⟨w,hw⟩:∃ w,s.paths[0]?=some w:=⟨_,zy3 zz0⟩
 have hwc:s.paths[choose s]?=some w:=by rw [hc0];exact hw
 generalize hG:nx s [a,b]=G;refine zap mixed Tryz.func96 zz4 [1000,1001,1002,1003,1004,1005,1006,1007,1008,1009] zbq ?_;(conv=>whnf)
 (refine cL ?_;refine dL pc ?_)
 by_cases c1:zei s<0
 case pos =>
  (refine cL ?_;refine dL pn ?_)
  refine sD ?_;refine zac ?_ ?_
  . exact zy10 c1
  (conv=>whnf);rw [ynq c1] at hG;exact yy15
 obtain ⟨k,hkl,hke⟩:=ycy (t:=s.config.turns) (s:=s.sched) (q:=s.queue) zz129;have hke':zei s=k:=hke;rw [hke] at pn;obtain ⟨m,hm⟩:∃ m,s.queue[k]?=some m:=⟨_,zy3 hkl⟩
 have hmf:=hmsg m (zy21 hm);obtain ⟨mf,mh,ms,ml,md⟩:=hmf;obtain ⟨n1,n2,n3⟩:=zrh (s:=s) (m:=m) hp1 hp2 ms ml md
 (refine cL ?_;refine dL pn ?_)
 refine sD ?_
 try (refine zab ?_ ?_;· simp;conv=>whnf)
 refine sOm ?_;refine zam hw rfl (zw ?_)
 (refine cL ?_;refine dL (Paths.zkl w) ?_)
 by_cases c2:w.zba<w.window
 case neg =>
  refine zac ?_ ?_
  . simpa using c2
  (conv=>whnf);rw [ynr hwc c2] at hG;exact yy15
 refine zab ?_ ?_
 . simpa using c2
 (conv=>whnf);by_cases c3:(s.out.length:Int)>=60
 case pos =>
  refine zac ?_ ?_
  . rw [zy2];exact zy10 c3
  (conv=>whnf);rw [yns c3] at hG;exact yy15
 refine zab ?_ ?_
 . rw [zy2];exact zy11 c3
 conv=>whnf
 repeat refine sG ?_
 refine sOm ?_;refine zam hm rfl (zw ?_);refine zam hm rfl (zw ?_);refine zbv (z':=(m.message.data.length:Int)-m.sent) ?_ ?_
 . show W _=_
   rw [zy2];exact zbu zz0 zz0
 (conv=>whnf);refine sD ?_
 (refine zae [] [(1000,1000),(1001,1001),(1002,1002),(1003,1003),(1004,1004),(1005,1005),(1006,1006),(1007,1007),(1008,1008),(1009,1009)] [] ?_;(conv=>whnf);refine dG (ztd s a b f4) ?_)
 have hWs:W (m.sent+many s m)=m.sent+many s m:=zbu zz0 zz0;by_cases c4:zba s>0
 case pos =>
  refine zac ?_ ?_
  . exact zy10 c4
  (conv=>whnf);refine sR ?_;by_cases c5:W (zba s+many s m)>s.room
  case pos =>
   refine zac ?_ ?_
   . exact zy10 c5
   (conv=>whnf);rw [ynt hke' hm hwc c2 c3 ⟨c4,c5⟩] at hG;exact yy15
  refine zab ?_ ?_
  . exact zy11 c5
  conv=>whnf
  repeat refine sG ?_
  rw [zvo hke' hm hwc c2 c3 fun h=>c5 h.2] at hG;exact yy0
 refine zab ?_ ?_
 . exact zy11 c4
 conv=>whnf
 repeat refine sG ?_
 rw [zvo hke' hm hwc c2 c3 fun h=>c4 h.1] at hG;exact yy0
end Snd
namespace Snd
open Ser
theorem yho (s:zah) (a b:List Chunk) (hs:xev s) (h1p:s.paths.length=2) (hc0:choose s=1) (hb:a.length+b.length<2 ^ 29):zan Tryz.prog 96 [.ptr 1000 0] (lk .free (pH2 s a b)) (zbj (nx s [a,b]).2) (lk .free (pD2 (nx s [a,b]).1.s (yfw (nx s [a,b]).1.out) (ynp (nx s [a,b]).1.out))):=by
 obtain ⟨g,hp,hp1,hp2,hmsg⟩:=hs;obtain ⟨⟨f1,f2,f3,f4,f5,f6,f7⟩,g2,g3,g4⟩:=g;obtain ⟨hch,hch2⟩:=zdm hp;have pc:=Paths.zeq s.paths zz0;rw [hch,hc0] at pc;have pn:=Sch.zwk s.config.turns s.sched s.queue zz0 zz0;obtain ⟨w,hw⟩:∃ w,s.paths[1]?=some w:=⟨_,zy3 zz0⟩
 have hwc:s.paths[choose s]?=some w:=by rw [hc0];exact hw
 generalize hG:nx s [a,b]=G;refine zap mixed Tryz.func96 zz4 [1000,1001,1002,1003,1004,1005,1006,1007,1008,1009] zbq ?_;(conv=>whnf)
 (refine cL ?_;refine dL pc ?_)
 by_cases c1:zei s<0
 case pos =>
  (refine cL ?_;refine dL pn ?_)
  refine sD ?_;refine zac ?_ ?_
  . exact zy10 c1
  (conv=>whnf);rw [ynq c1] at hG;exact yy15
 obtain ⟨k,hkl,hke⟩:=ycy (t:=s.config.turns) (s:=s.sched) (q:=s.queue) zz129;have hke':zei s=k:=hke;rw [hke] at pn;obtain ⟨m,hm⟩:∃ m,s.queue[k]?=some m:=⟨_,zy3 hkl⟩
 have hmf:=hmsg m (zy21 hm);obtain ⟨mf,mh,ms,ml,md⟩:=hmf;obtain ⟨n1,n2,n3⟩:=zrh (s:=s) (m:=m) hp1 hp2 ms ml md
 (refine cL ?_;refine dL pn ?_)
 refine sD ?_
 try (refine zab ?_ ?_;· simp;conv=>whnf)
 refine sOm ?_;refine zam hw rfl (zw ?_)
 (refine cL ?_;refine dL (Paths.zkl w) ?_)
 by_cases c2:w.zba<w.window
 case neg =>
  refine zac ?_ ?_
  . simpa using c2
  (conv=>whnf);rw [ynr hwc c2] at hG;exact yy15
 refine zab ?_ ?_
 . simpa using c2
 (conv=>whnf);by_cases c3:(s.out.length:Int)>=60
 case pos =>
  refine zac ?_ ?_
  . rw [zy2];exact zy10 c3
  (conv=>whnf);rw [yns c3] at hG;exact yy15
 refine zab ?_ ?_
 . rw [zy2];exact zy11 c3
 conv=>whnf
 repeat refine sG ?_
 refine sOm ?_;refine zam hm rfl (zw ?_);refine zam hm rfl (zw ?_);refine zbv (z':=(m.message.data.length:Int)-m.sent) ?_ ?_
 . show W _=_
   rw [zy2];exact zbu zz0 zz0
 (conv=>whnf);refine sD ?_
 (refine zae [] [(1000,1000),(1001,1001),(1002,1002),(1003,1003),(1004,1004),(1005,1005),(1006,1006),(1007,1007),(1008,1008),(1009,1009)] [] ?_;(conv=>whnf);refine dG (ztd s a b f4) ?_)
 have hWs:W (m.sent+many s m)=m.sent+many s m:=zbu zz0 zz0;by_cases c4:zba s>0
 case pos =>
  refine zac ?_ ?_
  . exact zy10 c4
  (conv=>whnf);refine sR ?_;by_cases c5:W (zba s+many s m)>s.room
  case pos =>
   refine zac ?_ ?_
   . exact zy10 c5
   (conv=>whnf);rw [ynt hke' hm hwc c2 c3 ⟨c4,c5⟩] at hG;exact yy15
  refine zab ?_ ?_
  . exact zy11 c5
  conv=>whnf
  repeat refine sG ?_
  rw [zvo hke' hm hwc c2 c3 fun h=>c5 h.2] at hG;exact yy1
 refine zab ?_ ?_
 . exact zy11 c4
 conv=>whnf
 repeat refine sG ?_
 rw [zvo hke' hm hwc c2 c3 fun h=>c4 h.1] at hG;exact yy1
theorem yqr (s:zah) (a b:List Chunk) (hs:xev s) (h1p:s.paths.length=2) (hb:a.length+b.length<2 ^ 29):zan Tryz.prog 96 [.ptr 1000 0] (lk .free (pH2 s a b)) (zbj (nx s [a,b]).2) (lk .free (pD2 (nx s [a,b]).1.s (yfw (nx s [a,b]).1.out) (ynp (nx s [a,b]).1.out))):=by
 have hc01:choose s=0\/choose s=1:=by have:=(zdm hs.some).2;omega
 exact hc01.elim (fun h=>yhn s a b hs h1p h hb) fun h=>yho s a b hs h1p h hb
end Snd
namespace Snd
open Ser
abbrev zhc (l:List zau):zai:=.live (.row 110 3 (l.map zau.row))
abbrev roK (l:List Chunk):zai:=.ro (.row 61 11 (l.map Chunk.row))
def xhy (id:Nat):List Chunk->List Chunk->HV
 | [],_=>.own id
 | _::a,b=>.osl id 11 (a.length+1) b.length
theorem zpq {α:Type} {f:α->List PV} {l a b c:List α} {o n:Nat} {K:List (List PV)->Prop} (h:l=a++b++c) (ho:o=a.length) (hn:n=b.length) (hk:K (b.map f)):zre (l.map f) o n K:=by
 subst h ho hn;refine ⟨_,rfl,by simp,?_⟩
 rwa [<- zy104,<- zy124,zy27,zy105,zy133]
theorem zhu {i s o o' n n':Nat} (ho:o=o') (hn:n=n'):HV.osl i s o n=.osl i s o' n':=by rw [ho,hn]
theorem zwa {most:Int} {l:List Chunk} (h:l≠[]):∃ k:Nat,zca most l=k/\1<=k/\k<=l.length:=by
 obtain ⟨r,h1,h2,-⟩:=Pck.yja l most;have h3:=zy34.2 h;have h4:=h2.1;unfold zca;rw [h1];split
 . exact ⟨1,rfl,by omega,by omega⟩
 . exact ⟨r,rfl,by omega,by omega⟩
theorem zmk (most path:Int) (n:Nat):zfi most path n []=[]:=by cases n<;>simp [zfi]
def Okc (c:Chunk):Prop:=c.zas.length<2 ^ 38/\c.zbr.length<2 ^ 38
abbrev pE1 (s:zah) (ps:List zau):List (Nat×zai):=(1000,.live (.cells 139 (yxt s (.own 1001) (.own 1002) (.own 1003) (.own 1004) (.own 1005) (.own 1006) (.own 1007))))::zzg s 1001 1002 1003 1004 1005 1006 [(1007,.dead),(1008,.dead),(0,zhc ps)]
abbrev pR1 (s:zah) (a:List Chunk) (L:List (Nat×zai)):List (Nat×zai):=(1000,.live (.cells 139 (yxt s (.own 1001) (.own 1002) (.own 1003) (.own 1004) (.own 1005) (.own 1006) (.own 1007))))::zzg s 1001 1002 1003 1004 1005 1006 ((1007,.live (.cells 145 [.own 1008]))::(1008,roK a)::L)
abbrev pE2 (s:zah) (ps:List zau):List (Nat×zai):=(1000,.live (.cells 139 (yxt s (.own 1001) (.own 1002) (.own 1003) (.own 1004) (.own 1005) (.own 1006) (.own 1007))))::zzg s 1001 1002 1003 1004 1005 1006 [(1007,.dead),(1008,.dead),(1009,.dead),(0,zhc ps)]
abbrev pR2 (s:zah) (a b:List Chunk) (L:List (Nat×zai)):List (Nat×zai):=(1000,.live (.cells 139 (yxt s (.own 1001) (.own 1002) (.own 1003) (.own 1004) (.own 1005) (.own 1006) (.own 1007))))::zzg s 1001 1002 1003 1004 1005 1006 ((1007,.live (.cells 145 [.own 1008,.own 1009]))::(1008,roK a)::(1009,roK b)::L)
theorem yco (s:zah) (a:List Chunk) (hm:inI s.config.packet) (ha:a.length<2 ^ 29) (hka:∀ c∈a,Okc c):zan Tryz.prog 97 [.ptr 1000 0] (lk .free (pH1 s a)) (.own 0) (lk .free (pE1 s (zbs s.config.packet 0 [a]))):=by
 generalize hT:zbs s.config.packet 0 [a]=T;refine zap mixed Tryz.func97 zz4 [1000,1001,1002,1003,1004,1005,1006,1007,1008] zbq ?_;(conv=>whnf);refine ⟨{x:Nat×List zau // x.1<=1/\x.2.length<=x.1*2 ^ 29/\x.2++zbs s.config.packet x.1 ([a].drop x.1)=T},
  fun | ⟨(i,acc),_⟩=>hsP [1000,1001,1002,1003,1004,1005,1006,1007,1008] 57 [(0,.ptr 1000 0),(3,.own 900),(12,.own 1007),(13,i64 1),(14,i64 i)] (pR1 s a [(900,zhc acc)]),fun x=>1-x.1.1,⟨(0,[]),by dsimp only;omega,by simp,hT⟩,?_,?_⟩
 . exact (zdj (pK9 [(900,none)]))
 rintro ⟨⟨i,acc⟩,k1,k3,k2⟩;dsimp only at k1 k2 k3;refine zcd fun Q hQ=>?_
 have hi:i=0\/i=1:=by omega
 rcases hi with rfl | rfl
 case inl =>
  have hdr:zbs s.config.packet 0 ([a].drop 0)=zfi s.config.packet 0 a.length a++zbs s.config.packet (0+1) ([a].drop (0+1)):=rfl;rw [hdr] at k2;(conv=>whnf);refine ⟨0,rfl,by decide,zw ?_⟩;refine ⟨{x:(List Chunk×List Chunk)×Nat×List zau // a=x.1.1++x.1.2/\x.1.2.length<=x.2.1/\x.2.2.length+x.1.2.length<=(0+1)*2 ^ 29/\x.2.2++(zfi s.config.packet 0 x.2.1 x.1.2++zbs s.config.packet (0+1) ([a].drop (0+1)))=T},
   fun | ⟨((A,B),n,acc),_⟩=>hsP [1000,1001,1002,1003,1004,1005,1006,1007,1008] 57 [(0,.ptr 1000 0),(3,.own 900),(4,i64 0),(5,xhy 1008 A B),(12,.own 1007),(13,i64 1),(14,i64 0)] (pR1 s a [(900,zhc acc)]),fun x=>x.1.1.2.length,⟨(([],a),a.length,acc),rfl,by simp,by dsimp only;omega,k2⟩,?_,?_⟩
  . exact (zdj (pK9 [(900,some 900)]))
  rintro ⟨⟨⟨A,B⟩,n,acc⟩,i1,i2,i4,i3⟩;dsimp only at i1 i2 i3 i4;refine zcd fun Q2 hQ2=>?_
  have hz:a.length=A.length+B.length:=by rw [i1];simp
  have hko:∀ c∈a,Okc c:=hka;by_cases hB:B=[]
  case pos =>
   subst hB;rw [zmk,zy57] at i3;rw [zy12] at hz;cases A with
   | nil =>
    (conv=>whnf);have ha0:a=[]:=zy14 zz152;refine zab ?_ ?_
    . simp [ha0]
    exact yy81
   | cons t A =>
    exact yy81
  case neg =>
  obtain ⟨r,r1,r2,r3⟩:=zwa (most:=s.config.packet) hB;have hBl:=zy34.2 hB;obtain ⟨n,rfl⟩:∃ n',n=n'+1:=⟨n-1,by omega⟩
  have hN:zfi s.config.packet 0 (n+1) B=zls s.config.packet 0 B++zfi s.config.packet 0 n (B.drop r):=by rw [zfi,zy0 hB,r1,zy22]
  have hP:zls s.config.packet 0 B=if (Pck.zda (B.take r) s.config.packet).2=0 then [⟨0,false,(Pck.zda (B.take r) s.config.packet).1⟩] else []:=by rw [zls,r1,zy22]
  have hsz:Pck.zeu B:=⟨by omega,fun c hc=>hko c zz116⟩
  have hszr:Pck.zeu (B.take r):=hsz.take r;rw [hN,zy27] at i3;cases A with
  | nil =>
   have i1':B=a:=i1.symm;subst i1';(conv=>whnf);refine sT ?_
   repeat refine sG ?_
   (refine cL ?_;refine dL (Pck.znh B s.config.packet hsz hm) ?_)
   refine zaa (c:=(0:Int)<=0/\(0:Int)<=zca s.config.packet B/\zca s.config.packet B<=((B.map Chunk.row).length:Int)) ⟨by omega,by omega,by rw [zy2];omega⟩ (zw ?_);refine zdc (zw ?_);refine zpq (a:=[]) (b:=B.take r) (c:=B.drop r) zz5 rfl (show (zca s.config.packet B-0).toNat=_ by rw [r1];simp;omega) ?_;(conv=>whnf);refine ⟨_,Pck.zge (B.take r) s.config.packet hszr,rfl,zw ?_⟩;refine sD ?_;by_cases ho:(Pck.zda (B.take r) s.config.packet).2=0
   case pos =>
    rw [zy1 ho] at hP;refine zac ?_ ?_
    . simpa using ho
    (conv=>whnf);refine zaa (c:=((acc.map zau.row).length+1)*40<=140737488355328) zz6 (zw ?_)
    repeat refine sG ?_
    refine zaa (c:=(0:Int)<=zca s.config.packet B/\zca s.config.packet B<=((B.map Chunk.row).length:Int)/\((B.map Chunk.row).length:Int)<=((B.map Chunk.row).length:Int)) ⟨by omega,by rw [zy2];omega,by omega⟩ (zw ?_);obtain ⟨x,B1,hx⟩:∃ x B1,B.take r=x::B1:=by
     exact yy28
    have hxl:B1.length+1=r:=by have:=congrArg List.length hx;simp at this;omega
    refine hQ2 _ _ (zw ?_);exact ⟨⟨((x::B1,B.drop r),n,acc++[⟨0,false,(Pck.zda (B.take r) s.config.packet).1⟩]),by rw [<- hx,zy31],by simp;omega,by simp;omega,by rw [<- i3,hP];simp⟩,(zcb (pK9 [(900,some 51)]) zz8),by simp;omega⟩
   case neg =>
    rw [zy0 ho] at hP;refine zab ?_ ?_
    . simpa using ho
    conv=>whnf
    repeat refine sG ?_
    refine zaa (c:=(0:Int)<=zca s.config.packet B/\zca s.config.packet B<=((B.map Chunk.row).length:Int)/\((B.map Chunk.row).length:Int)<=((B.map Chunk.row).length:Int)) ⟨by omega,by rw [zy2];omega,by omega⟩ (zw ?_);obtain ⟨x,B1,hx⟩:∃ x B1,B.take r=x::B1:=by
     exact yy28
    have hxl:B1.length+1=r:=by have:=congrArg List.length hx;simp at this;omega
    refine hQ2 _ _ (zw ?_);exact ⟨⟨((x::B1,B.drop r),n,acc),by rw [<- hx,zy31],by simp;omega,by simp;omega,by rw [<- i3,hP];simp⟩,(zcb (pK9 [(900,some 900)]) zz8),by simp;omega⟩
  | cons t A =>
   have hal:(A.length:Int)+1=((t::A).length:Nat):=by simp
   (conv=>whnf);refine sT ?_
   repeat refine sG ?_
   refine zbg (zw ?_);refine zpq (a:=t::A) (b:=B) (c:=[]) zz131 rfl rfl ?_;(conv=>whnf);refine ⟨_,Pck.znh B s.config.packet hsz hm,rfl,zw ?_⟩
   repeat refine sG ?_
   refine zaa (c:=(0:Int)<=zca s.config.packet B/\((A.length+1:Nat):Int)+zca s.config.packet B<=((a.map Chunk.row).length:Int)) ⟨by omega,by rw [zy2,hz,zy6];omega⟩ (zw ?_);refine zdc (zw ?_);refine zpq (a:=t::A) (b:=B.take r) (c:=B.drop r) zz131 rfl (show (zca s.config.packet B).toNat=_ by rw [r1];simp;omega) ?_;(conv=>whnf);refine ⟨_,Pck.zge (B.take r) s.config.packet hszr,rfl,zw ?_⟩;refine sD ?_;by_cases ho:(Pck.zda (B.take r) s.config.packet).2=0
   case pos =>
    rw [zy1 ho] at hP;refine zac ?_ ?_
    . simpa using ho
    (conv=>whnf);refine zaa (c:=((acc.map zau.row).length+1)*40<=140737488355328) zz6 (zw ?_)
    repeat refine sG ?_
    refine zaa (c:=(0:Int)<=zca s.config.packet B/\zca s.config.packet B<=(B.length:Int)/\((A.length+1:Nat):Int)+(B.length:Int)<=((a.map Chunk.row).length:Int)) ⟨by omega,by omega,by rw [zy2,hz,zy6];omega⟩ (zw ?_);refine hQ2 _ _ (zw ?_);exact ⟨⟨((t::(A++B.take r),B.drop r),n,acc++[⟨0,false,(Pck.zda (B.take r) s.config.packet).1⟩]),by rw [i1];simp,by simp;omega,by simp;omega,by rw [<- i3,hP];simp⟩,(zcb (pK9 [(900,some 51)]) zz7),by simp;omega⟩
   case neg =>
    rw [zy0 ho] at hP;refine zab ?_ ?_
    . simpa using ho
    conv=>whnf
    repeat refine sG ?_
    refine zaa (c:=(0:Int)<=zca s.config.packet B/\zca s.config.packet B<=(B.length:Int)/\((A.length+1:Nat):Int)+(B.length:Int)<=((a.map Chunk.row).length:Int)) ⟨by omega,by omega,by rw [zy2,hz,zy6];omega⟩ (zw ?_);refine hQ2 _ _ (zw ?_);exact ⟨⟨((t::(A++B.take r),B.drop r),n,acc),by rw [i1];simp,by simp;omega,by simp;omega,by rw [<- i3,hP];simp⟩,(zcb (pK9 [(900,some 900)]) zz7),by simp;omega⟩
 case inr =>
  have k2:acc=T:=by rw [<- k2];simp [zbs]
  subst k2;(conv=>whnf);refine hQ _ _ ?_;conv=>whnf
  (exact zci (pK9 [(0,some 900)]))
theorem ycp (s:zah) (a b:List Chunk) (hm:inI s.config.packet) (ha:a.length<2 ^ 29) (hb:b.length<2 ^ 29) (hka:∀ c∈a,Okc c) (hkb:∀ c∈b,Okc c):zan Tryz.prog 97 [.ptr 1000 0] (lk .free (pH2 s a b)) (.own 0) (lk .free (pE2 s (zbs s.config.packet 0 [a,b]))):=by
 generalize hT:zbs s.config.packet 0 [a,b]=T;refine zap mixed Tryz.func97 zz4 [1000,1001,1002,1003,1004,1005,1006,1007,1008,1009] zbq ?_;(conv=>whnf);refine ⟨{x:Nat×List zau // x.1<=2/\x.2.length<=x.1*2 ^ 29/\x.2++zbs s.config.packet x.1 ([a,b].drop x.1)=T},
  fun | ⟨(i,acc),_⟩=>hsP [1000,1001,1002,1003,1004,1005,1006,1007,1008,1009] 57 [(0,.ptr 1000 0),(3,.own 900),(12,.own 1007),(13,i64 2),(14,i64 i)] (pR2 s a b [(900,zhc acc)]),fun x=>2-x.1.1,⟨(0,[]),by dsimp only;omega,by simp,hT⟩,?_,?_⟩
 . exact (zdj (zhz [(900,none)]))
 rintro ⟨⟨i,acc⟩,k1,k3,k2⟩;dsimp only at k1 k2 k3;refine zcd fun Q hQ=>?_
 have hi:i=0\/i=1\/i=2:=by omega
 rcases hi with rfl | rfl | rfl
 case inl =>
  have hdr:zbs s.config.packet 0 ([a,b].drop 0)=zfi s.config.packet 0 a.length a++zbs s.config.packet (0+1) ([a,b].drop (0+1)):=rfl;rw [hdr] at k2;(conv=>whnf);refine ⟨0,rfl,by decide,zw ?_⟩;refine ⟨{x:(List Chunk×List Chunk)×Nat×List zau // a=x.1.1++x.1.2/\x.1.2.length<=x.2.1/\x.2.2.length+x.1.2.length<=(0+1)*2 ^ 29/\x.2.2++(zfi s.config.packet 0 x.2.1 x.1.2++zbs s.config.packet (0+1) ([a,b].drop (0+1)))=T},
   fun | ⟨((A,B),n,acc),_⟩=>hsP [1000,1001,1002,1003,1004,1005,1006,1007,1008,1009] 57 [(0,.ptr 1000 0),(3,.own 900),(4,i64 0),(5,xhy 1008 A B),(12,.own 1007),(13,i64 2),(14,i64 0)] (pR2 s a b [(900,zhc acc)]),fun x=>x.1.1.2.length,⟨(([],a),a.length,acc),rfl,by simp,by dsimp only;omega,k2⟩,?_,?_⟩
  . exact (zdj (zhz [(900,some 900)]))
  rintro ⟨⟨⟨A,B⟩,n,acc⟩,i1,i2,i4,i3⟩;dsimp only at i1 i2 i3 i4;refine zcd fun Q2 hQ2=>?_
  have hz:a.length=A.length+B.length:=by rw [i1];simp
  have hko:∀ c∈a,Okc c:=hka;by_cases hB:B=[]
  case pos =>
   subst hB;rw [zmk,zy57] at i3;rw [zy12] at hz;cases A with
   | nil =>
    (conv=>whnf);have ha0:a=[]:=zy14 zz152;refine zab ?_ ?_
    . simp [ha0]
    exact yy82
   | cons t A =>
    exact yy82
  case neg =>
  obtain ⟨r,r1,r2,r3⟩:=zwa (most:=s.config.packet) hB;have hBl:=zy34.2 hB;obtain ⟨n,rfl⟩:∃ n',n=n'+1:=⟨n-1,by omega⟩
  have hN:zfi s.config.packet 0 (n+1) B=zls s.config.packet 0 B++zfi s.config.packet 0 n (B.drop r):=by rw [zfi,zy0 hB,r1,zy22]
  have hP:zls s.config.packet 0 B=if (Pck.zda (B.take r) s.config.packet).2=0 then [⟨0,false,(Pck.zda (B.take r) s.config.packet).1⟩] else []:=by rw [zls,r1,zy22]
  have hsz:Pck.zeu B:=⟨by omega,fun c hc=>hko c zz116⟩
  have hszr:Pck.zeu (B.take r):=hsz.take r;rw [hN,zy27] at i3;cases A with
  | nil =>
   have i1':B=a:=i1.symm;subst i1';(conv=>whnf);refine sT ?_
   repeat refine sG ?_
   (refine cL ?_;refine dL (Pck.znh B s.config.packet hsz hm) ?_)
   refine zaa (c:=(0:Int)<=0/\(0:Int)<=zca s.config.packet B/\zca s.config.packet B<=((B.map Chunk.row).length:Int)) ⟨by omega,by omega,by rw [zy2];omega⟩ (zw ?_);refine zdc (zw ?_);refine zpq (a:=[]) (b:=B.take r) (c:=B.drop r) zz5 rfl (show (zca s.config.packet B-0).toNat=_ by rw [r1];simp;omega) ?_;(conv=>whnf);refine ⟨_,Pck.zge (B.take r) s.config.packet hszr,rfl,zw ?_⟩;refine sD ?_;by_cases ho:(Pck.zda (B.take r) s.config.packet).2=0
   case pos =>
    rw [zy1 ho] at hP;refine zac ?_ ?_
    . simpa using ho
    (conv=>whnf);refine zaa (c:=((acc.map zau.row).length+1)*40<=140737488355328) zz6 (zw ?_)
    repeat refine sG ?_
    refine zaa (c:=(0:Int)<=zca s.config.packet B/\zca s.config.packet B<=((B.map Chunk.row).length:Int)/\((B.map Chunk.row).length:Int)<=((B.map Chunk.row).length:Int)) ⟨by omega,by rw [zy2];omega,by omega⟩ (zw ?_);obtain ⟨x,B1,hx⟩:∃ x B1,B.take r=x::B1:=by
     exact yy28
    have hxl:B1.length+1=r:=by have:=congrArg List.length hx;simp at this;omega
    refine hQ2 _ _ (zw ?_);exact ⟨⟨((x::B1,B.drop r),n,acc++[⟨0,false,(Pck.zda (B.take r) s.config.packet).1⟩]),by rw [<- hx,zy31],by simp;omega,by simp;omega,by rw [<- i3,hP];simp⟩,(zcb (zhz [(900,some 51)]) zz8),by simp;omega⟩
   case neg =>
    exact yy22
  | cons t A =>
   have hal:(A.length:Int)+1=((t::A).length:Nat):=by simp
   (conv=>whnf);refine sT ?_
   repeat refine sG ?_
   refine zbg (zw ?_);refine zpq (a:=t::A) (b:=B) (c:=[]) zz131 rfl rfl ?_;(conv=>whnf);refine ⟨_,Pck.znh B s.config.packet hsz hm,rfl,zw ?_⟩
   repeat refine sG ?_
   refine zaa (c:=(0:Int)<=zca s.config.packet B/\((A.length+1:Nat):Int)+zca s.config.packet B<=((a.map Chunk.row).length:Int)) ⟨by omega,by rw [zy2,hz,zy6];omega⟩ (zw ?_);refine zdc (zw ?_);refine zpq (a:=t::A) (b:=B.take r) (c:=B.drop r) zz131 rfl (show (zca s.config.packet B).toNat=_ by rw [r1];simp;omega) ?_;(conv=>whnf);refine ⟨_,Pck.zge (B.take r) s.config.packet hszr,rfl,zw ?_⟩;refine sD ?_;by_cases ho:(Pck.zda (B.take r) s.config.packet).2=0
   case pos =>
    rw [zy1 ho] at hP;refine zac ?_ ?_
    . simpa using ho
    (conv=>whnf);refine zaa (c:=((acc.map zau.row).length+1)*40<=140737488355328) zz6 (zw ?_)
    repeat refine sG ?_
    refine zaa (c:=(0:Int)<=zca s.config.packet B/\zca s.config.packet B<=(B.length:Int)/\((A.length+1:Nat):Int)+(B.length:Int)<=((a.map Chunk.row).length:Int)) ⟨by omega,by omega,by rw [zy2,hz,zy6];omega⟩ (zw ?_);refine hQ2 _ _ (zw ?_);exact ⟨⟨((t::(A++B.take r),B.drop r),n,acc++[⟨0,false,(Pck.zda (B.take r) s.config.packet).1⟩]),by rw [i1];simp,by simp;omega,by simp;omega,by rw [<- i3,hP];simp⟩,(zcb (zhz [(900,some 51)]) zz7),by simp;omega⟩
   case neg =>
    rw [zy0 ho] at hP;refine zab ?_ ?_
    . simpa using ho
    conv=>whnf
    repeat refine sG ?_
    refine zaa (c:=(0:Int)<=zca s.config.packet B/\zca s.config.packet B<=(B.length:Int)/\((A.length+1:Nat):Int)+(B.length:Int)<=((a.map Chunk.row).length:Int)) ⟨by omega,by omega,by rw [zy2,hz,zy6];omega⟩ (zw ?_);exact yy99
 case inr.inl =>
  have hdr:zbs s.config.packet 1 ([a,b].drop 1)=zfi s.config.packet 1 b.length b++zbs s.config.packet (1+1) ([a,b].drop (1+1)):=rfl;rw [hdr] at k2;(conv=>whnf);refine ⟨1,rfl,by decide,zw ?_⟩;refine ⟨{x:(List Chunk×List Chunk)×Nat×List zau // b=x.1.1++x.1.2/\x.1.2.length<=x.2.1/\x.2.2.length+x.1.2.length<=(1+1)*2 ^ 29/\x.2.2++(zfi s.config.packet 1 x.2.1 x.1.2++zbs s.config.packet (1+1) ([a,b].drop (1+1)))=T},
   fun | ⟨((A,B),n,acc),_⟩=>hsP [1000,1001,1002,1003,1004,1005,1006,1007,1008,1009] 57 [(0,.ptr 1000 0),(3,.own 900),(4,i64 1),(5,xhy 1009 A B),(12,.own 1007),(13,i64 2),(14,i64 1)] (pR2 s a b [(900,zhc acc)]),fun x=>x.1.1.2.length,⟨(([],b),b.length,acc),rfl,by simp,by dsimp only;omega,k2⟩,?_,?_⟩
  . exact (zdj (zhz [(900,some 900)]))
  rintro ⟨⟨⟨A,B⟩,n,acc⟩,i1,i2,i4,i3⟩;dsimp only at i1 i2 i3 i4;refine zcd fun Q2 hQ2=>?_
  have hz:b.length=A.length+B.length:=by rw [i1];simp
  have hko:∀ c∈b,Okc c:=hkb;by_cases hB:B=[]
  case pos =>
   subst hB;rw [zmk,zy57] at i3;rw [zy12] at hz;cases A with
   | nil =>
    (conv=>whnf);have ha0:b=[]:=zy14 zz152;refine zab ?_ ?_
    . simp [ha0]
    exact yy83
   | cons t A =>
    exact yy83
  case neg =>
  obtain ⟨r,r1,r2,r3⟩:=zwa (most:=s.config.packet) hB;have hBl:=zy34.2 hB;obtain ⟨n,rfl⟩:∃ n',n=n'+1:=⟨n-1,by omega⟩
  have hN:zfi s.config.packet 1 (n+1) B=zls s.config.packet 1 B++zfi s.config.packet 1 n (B.drop r):=by rw [zfi,zy0 hB,r1,zy22]
  have hP:zls s.config.packet 1 B=if (Pck.zda (B.take r) s.config.packet).2=0 then [⟨1,false,(Pck.zda (B.take r) s.config.packet).1⟩] else []:=by rw [zls,r1,zy22]
  have hsz:Pck.zeu B:=⟨by omega,fun c hc=>hko c zz116⟩
  have hszr:Pck.zeu (B.take r):=hsz.take r;rw [hN,zy27] at i3;cases A with
  | nil =>
   have i1':B=b:=i1.symm;subst i1';(conv=>whnf);refine sT ?_
   repeat refine sG ?_
   (refine cL ?_;refine dL (Pck.znh B s.config.packet hsz hm) ?_)
   refine zaa (c:=(0:Int)<=0/\(0:Int)<=zca s.config.packet B/\zca s.config.packet B<=((B.map Chunk.row).length:Int)) ⟨by omega,by omega,by rw [zy2];omega⟩ (zw ?_);refine zdc (zw ?_);refine zpq (a:=[]) (b:=B.take r) (c:=B.drop r) zz5 rfl (show (zca s.config.packet B-0).toNat=_ by rw [r1];simp;omega) ?_;(conv=>whnf);refine ⟨_,Pck.zge (B.take r) s.config.packet hszr,rfl,zw ?_⟩;refine sD ?_;by_cases ho:(Pck.zda (B.take r) s.config.packet).2=0
   case pos =>
    rw [zy1 ho] at hP;refine zac ?_ ?_
    . simpa using ho
    (conv=>whnf);refine zaa (c:=((acc.map zau.row).length+1)*40<=140737488355328) zz6 (zw ?_)
    repeat refine sG ?_
    refine zaa (c:=(0:Int)<=zca s.config.packet B/\zca s.config.packet B<=((B.map Chunk.row).length:Int)/\((B.map Chunk.row).length:Int)<=((B.map Chunk.row).length:Int)) ⟨by omega,by rw [zy2];omega,by omega⟩ (zw ?_);obtain ⟨x,B1,hx⟩:∃ x B1,B.take r=x::B1:=by
     exact yy28
    have hxl:B1.length+1=r:=by have:=congrArg List.length hx;simp at this;omega
    refine hQ2 _ _ (zw ?_);exact ⟨⟨((x::B1,B.drop r),n,acc++[⟨1,false,(Pck.zda (B.take r) s.config.packet).1⟩]),by rw [<- hx,zy31],by simp;omega,by simp;omega,by rw [<- i3,hP];simp⟩,(zcb (zhz [(900,some 51)]) zz8),by simp;omega⟩
   case neg =>
    exact yy22
  | cons t A =>
   have hal:(A.length:Int)+1=((t::A).length:Nat):=by simp
   (conv=>whnf);refine sT ?_
   repeat refine sG ?_
   refine zbg (zw ?_);refine zpq (a:=t::A) (b:=B) (c:=[]) zz131 rfl rfl ?_;(conv=>whnf);refine ⟨_,Pck.znh B s.config.packet hsz hm,rfl,zw ?_⟩
   repeat refine sG ?_
   refine zaa (c:=(0:Int)<=zca s.config.packet B/\((A.length+1:Nat):Int)+zca s.config.packet B<=((b.map Chunk.row).length:Int)) ⟨by omega,by rw [zy2,hz,zy6];omega⟩ (zw ?_);refine zdc (zw ?_);refine zpq (a:=t::A) (b:=B.take r) (c:=B.drop r) zz131 rfl (show (zca s.config.packet B).toNat=_ by rw [r1];simp;omega) ?_;(conv=>whnf);refine ⟨_,Pck.zge (B.take r) s.config.packet hszr,rfl,zw ?_⟩;refine sD ?_;by_cases ho:(Pck.zda (B.take r) s.config.packet).2=0
   case pos =>
    rw [zy1 ho] at hP;refine zac ?_ ?_
    . simpa using ho
    (conv=>whnf);refine zaa (c:=((acc.map zau.row).length+1)*40<=140737488355328) zz6 (zw ?_)
    repeat refine sG ?_
    refine zaa (c:=(0:Int)<=zca s.config.packet B/\zca s.config.packet B<=(B.length:Int)/\((A.length+1:Nat):Int)+(B.length:Int)<=((b.map Chunk.row).length:Int)) ⟨by omega,by omega,by rw [zy2,hz,zy6];omega⟩ (zw ?_);refine hQ2 _ _ (zw ?_);exact ⟨⟨((t::(A++B.take r),B.drop r),n,acc++[⟨1,false,(Pck.zda (B.take r) s.config.packet).1⟩]),by rw [i1];simp,by simp;omega,by simp;omega,by rw [<- i3,hP];simp⟩,(zcb (zhz [(900,some 51)]) zz7),by simp;omega⟩
   case neg =>
    rw [zy0 ho] at hP;refine zab ?_ ?_
    . simpa using ho
    conv=>whnf
    repeat refine sG ?_
    refine zaa (c:=(0:Int)<=zca s.config.packet B/\zca s.config.packet B<=(B.length:Int)/\((A.length+1:Nat):Int)+(B.length:Int)<=((b.map Chunk.row).length:Int)) ⟨by omega,by omega,by rw [zy2,hz,zy6];omega⟩ (zw ?_);exact yy99
 case inr.inr =>
  have k2:acc=T:=by rw [<- k2];simp [zbs]
  subst k2;(conv=>whnf);refine hQ _ _ ?_;conv=>whnf
  (exact zci (zhz [(0,some 900)]))
end Snd
namespace Snd
open Ser
structure PF (j:Nat) (s:zah):Prop where
 g:ylj s
 some:0<s.paths.length
 part:1<=s.config.part
 part2:s.config.part<2 ^ 30
 msg:∀ m∈s.queue,zug s m
 chunk:∀ x∈s.out,Okc x.chunk
 bytes:Sco.total s.out+j*2 ^ 30<2 ^ 38
 few:s.out.length+s.queue.length<2 ^ 27
theorem PF.nfit {j:Nat} {s:zah} (h:PF j s):xev s:=⟨h.g,h.some,h.part,h.part2,h.msg⟩
theorem zug.same {s t:zah} {m:zak} (h:zug s m) (h1:t.config=s.config) (h2:t.mids.length=s.mids.length) (h3:t.sched.had.length=s.sched.had.length):zug t m:=by
 obtain ⟨⟨a1,a2,a3,a4,a5⟩,b1,b2,b3,b4⟩:=h;have e:zgn t m=zgn s m:=by unfold zgn;rw [h1]
 exact ⟨⟨a1,a2,by rw [h1];exact a3,by rw [h1];exact a4,fun hm=>by rw [e,h2];exact a5 hm⟩,by rw [h3];exact b1,b2,b3,b4⟩
theorem ylv (id:Int):∀ (q:List zak) (s:zah),(∀ x∈s.out,Okc x.chunk)->∀ x∈(q.foldl (zez id) s).out,Okc x.chunk
 | [],s,h,x,hx=>h x hx
 | m::q,s,h,x,hx=>by
  refine ylv id q (zez id s m) (fun y hy=>?_) x hx;unfold zez at hy;split at hy
  . rcases zy20.1 hy with hy | hy
    . exact h y hy
    . rw [zy25] at hy;subst hy;exact ⟨by simp [zpg],by simp [zpg]⟩
  . exact h y hy
theorem yti {j:Nat} {s:zah} (h:PF j s) {id:Nat} (hid:id<s.fates.length):PF j (zfg s id):=by
 obtain ⟨r,h1,h2,h3⟩:=zkd s id;have hs:=r.sum;refine ⟨yav h.g hid,by rw [r.paths];exact h.some,by rw [r.config];exact h.part,by rw [r.config];exact h.part2,fun m hm=>(h.msg m (h2 m hm)).same r.config (by rw [r.mids]) (by rw [r.had]),fun x hx=>?_,by rw [h1];exact h.bytes,by have:=h.few;omega⟩;have hx':x∈((s.queue.foldl (zez id) {s with fates:=s.fates.set id 3}).out.map (Sco.zgk id)):=hx;obtain ⟨y,hy,rfl⟩:=zy36.1 hx';have:=ylv id s.queue {s with fates:=s.fates.set id 3} h.chunk y hy;have e:(Sco.zgk id y).chunk=y.chunk:=by unfold Sco.zgk;split<;>rfl
 rw [e];exact this
theorem xcz {j:Nat} {s:zah} (h:PF j s) {m:zak} (hm:0<=m.id/\m.id<s.fates.length):PF j (zlm s m):=by
 unfold zlm;split
 . obtain ⟨k,hk⟩:∃ k:Nat,m.id=k:=⟨m.id.toNat,by omega⟩
   rw [hk];exact yti h zz0
 . exact h
theorem xdb {j:Nat} {s:zah} (h:PF j s) {m:zbo} (hm:0<=m.id/\m.id<s.fates.length):PF j (zhl s m):=by
 unfold zhl;split
 . obtain ⟨k,hk⟩:∃ k:Nat,m.id=k:=⟨m.id.toNat,by omega⟩
   rw [hk];exact yti h zz0
 . exact h
theorem yly {j:Nat}:∀ (q:List zak) (s:zah),PF j s->(∀ m∈q,0<=m.id/\m.id<s.fates.length)->PF j (q.foldl zlm s)/\Rest s (q.foldl zlm s)
 | [],s,h,_=>⟨h,Rest.refl s⟩
 | m::q,s,h,hq=>by
  obtain ⟨-,r⟩:=yao h.g (hq m zz5);obtain ⟨h1,r1⟩:=yly q (zlm s m) (xcz h (hq m zz5)) fun x hx=>by rw [r.fates];exact hq x zz103
  exact ⟨h1,r.trans r1⟩
theorem yma {j:Nat}:∀ (q:List zbo) (s:zah),PF j s->(∀ m∈q,0<=m.id/\m.id<s.fates.length)->PF j (q.foldl zhl s)/\Rest s (q.foldl zhl s)
 | [],s,h,_=>⟨h,Rest.refl s⟩
 | m::q,s,h,hq=>by
  obtain ⟨-,r⟩:=yaq h.g (hq m zz5);obtain ⟨h1,r1⟩:=yma q (zhl s m) (xdb h (hq m zz5)) fun x hx=>by rw [r.fates];exact hq x zz103
  exact ⟨h1,r.trans r1⟩
theorem yec {j:Nat} {s:zah} (h:PF j s):PF j (expire s)/\Rest s (expire s):=by
 obtain ⟨h1,r1⟩:=yly s.queue s h h.g.qid;obtain ⟨h2,r2⟩:=yma (s.queue.foldl zlm s).out _ h1 h1.g.xid;exact ⟨h2,r1.trans r2⟩
theorem zvv:∀ (l:List zbo) (cum:Int) (sk:List zdw),sk.length<=8->(Sco.zet cum sk l).2.length<=8
 | [],cum,sk,h=>h
 | x::l,cum,sk,h=>by
  simp only [Sco.zet];split
  . exact h
  split
  . split
    . exact h
    . exact zvv l _ _ zz0
  . exact zvv l _ _ h
theorem ytf (s:zah):Okc (xhe s):=⟨by simp [xhe],by have:=zvv s.out s.cum [] zz5;show (Sco.zdx s.out s.cum).2.length<_;unfold Sco.zdx;omega⟩
theorem PF.paths {j:Nat} {s:zah} (h:PF j s) (ps:List Path) (f:Bool) (hp:ps.length=s.paths.length):PF j {s with paths:=ps,forward:=f}:=by
 obtain ⟨⟨⟨f1,f2,f3,f4,f5,f6,f7⟩,g2,g3,g4⟩,a1,a2,a3,a4,a5,a6,a7⟩:=h;exact ⟨⟨⟨f1,f2,f3,by show ps.length<_;omega,f5,f6,f7⟩,g2,g3,g4⟩,by show 0<ps.length;omega,a2,a3,fun m hm=>(a4 m hm).same rfl rfl rfl,a5,a6,a7⟩
theorem xft {j:Nat} {s:zah} (h:PF j s) {k:Nat} {w:Path}:PF j (yih s k w):=h.paths _ _ zz5
theorem xfr {j:Nat} {s:zah} (h:PF j s) {i c:Nat} {x:zbo} {w:Path} (hx:s.out[i]?=some x):PF j (zxg s i c x w):=by
 obtain ⟨⟨⟨f1,f2,⟨b1,b2⟩,f4,f5,f6,f7⟩,g2,g3,g4⟩,a1,a2,a3,a4,a5,a6,a7⟩:=h;have hi:=(zy9.1 hx).1;have hl:(zxg s i c x w).out.length=s.out.length:=by show (s.out.set i _).length=_;simp
 have hp:(zxg s i c x w).paths.length=s.paths.length:=by show (s.paths.set c _).length=_;simp
 have ht:Sco.total (zxg s i c x w).out=Sco.total s.out:=by
  show Sco.total (s.out.set i (zsp x c))=_;have he:s.out[i]=x:=(zy9.1 hx).2;simp only [Sco.total,zy61];rw [show (zsp x c).chunk.data.length=(s.out.map fun s=>s.chunk.data.length)[i]'(by simpa using hi) by simp [zsp,he],List.set_getElem_self]
 have hmem:∀ y∈(zxg s i c x w).out,∃ z∈s.out,y.id=z.id/\y.chunk=z.chunk:=fun y hy=>by
  rcases zy66 (show y∈s.out.set i (zsp x c) from hy) with hy | hy
  . exact ⟨y,hy,rfl,rfl⟩
  . exact ⟨x,zy21 hx,by rw [hy];rfl,by rw [hy];rfl⟩
 refine ⟨⟨⟨f1,f2,⟨by rw [hl];exact b1,by rw [ht];exact b2⟩,by rw [hp];exact f4,f5,f6,f7⟩,by rw [hl];exact g2,g3,fun y hy=>?_⟩,by rw [hp];exact a1,a2,a3,fun m hm=>(a4 m hm).same rfl rfl rfl,fun y hy=>?_,by rw [ht];exact a6,by rw [hl];exact a7⟩
 . obtain ⟨z,hz,e,-⟩:=hmem y hy;rw [e];exact g4 z hz
 . obtain ⟨z,hz,-,e⟩:=hmem y hy;rw [e];exact a5 z hz
def nxS (s:zah) (k c:Nat) (m:zak) (w:Path):zah:={zxg (s2 s k m) s.out.length c (x0 s m) w with queue:=if ovr s m then s.queue.eraseIdx k else s.queue.set k (m2 s m)}
theorem xds {j:Nat} {s:zah} (h:PF (j+1) s) {k c:Nat} {m:zak} {w:Path} (hm:s.queue[k]?=some m) (ho:s.out.length<60):PF j (nxS s k c m w):=by
 have hmf:=h.msg m (zy21 hm);obtain ⟨⟨⟨f1,f2,⟨b1,b2⟩,f4,f5,f6,f7⟩,g2,g3,g4⟩,a1,a2,a3,a4,a5,a6,a7⟩:=h;obtain ⟨n1,n2,n3⟩:=zrh (s:=s) (m:=m) a2 a3 hmf.sent hmf.left hmf.data;have hk:=(zy9.1 hm).1;have hmid:(zds s m).length=s.mids.length:=by
  unfold zds setAt;split
  . split
    . rfl
    . simp
  . rfl
 have hhad:(Sch.had s.sched {m with mid:=zdf s m} (many s m) (ovr s m)).had.length=s.sched.had.length:=by
  unfold Sch.had;dsimp only;split<;>simp
 have hout:(nxS s k c m w).out=(s.out++[x0 s m]).set s.out.length (zsp (x0 s m) c):=rfl;have hout2:(nxS s k c m w).out=s.out++[zsp (x0 s m) c]:=by rw [hout,zy153 _ _ (zy23 _),zy95];rfl
 have hq:∀ y∈(nxS s k c m w).queue,y∈s.queue\/(y=m2 s m/\ovr s m=false):=fun y hy=>by
  have hy:y∈(if ovr s m then s.queue.eraseIdx k else s.queue.set k (m2 s m)):=hy;cases ho:ovr s m with
  | true=>rw [ho,zy1 rfl] at hy;exact .inl (zy68 hy)
  | false =>
   rw [ho,zy0 (by decide)] at hy;rcases zy66 hy with hy | hy
   . exact .inl hy
   . exact .inr ⟨hy,rfl⟩
 have hql:(nxS s k c m w).queue.length<=s.queue.length:=by
  show (if ovr s m then s.queue.eraseIdx k else s.queue.set k (m2 s m)).length<=_;split
  . rw [zy81];split<;>omega
  . simp
 have hp:(nxS s k c m w).paths.length=s.paths.length:=by show (s.paths.set c _).length=_;simp
 have hd:(x0 s m).chunk.data.length<2 ^ 30:=by show ((m.message.data.drop _).take _).length<_;simp;omega
 have htot:Sco.total (nxS s k c m w).out=Sco.total s.out+(x0 s m).chunk.data.length:=by rw [hout2,Sco.zhq];simp [Sco.total,zsp]
 have hlen:(nxS s k c m w).out.length=s.out.length+1:=by rw [hout2];simp
 have hm2:ovr s m=false->zug s (m2 s m):=fun ho=>by
  have:m.sent+many s m≠m.message.data.length:=by
   intro e;have:=xbx s m;rw [ho,zy28] at this;exact this e
  obtain ⟨⟨c1,c2,c3,c4,c5⟩,d1,d2,d3,d4⟩:=hmf;refine ⟨⟨c1,c2,c3,c4,fun hneg=>?_⟩,d1,by show 0<=m.sent+many s m;omega,by show m.sent+many s m<m.message.data.length;omega,d4⟩;have hmn:m.mid<0:=by
   rcases Int.lt_or_le m.mid 0 with h0 | h0
   . exact h0
   . have:zdf s m=m.mid:=by rw [zdf,zy0 (by omega)]
     have hneg:zdf s m<0:=hneg;omega
  exact c5 hmn
 refine ⟨⟨⟨by omega,by rw [show (nxS s k c m w).sched.had.length=s.sched.had.length from hhad];exact f2,⟨by omega,by omega⟩,by omega,by rw [show (nxS s k c m w).mids.length=s.mids.length from hmid];exact f5,f6,fun y hy=>?_⟩,by omega,fun y hy=>?_,fun y hy=>?_⟩,by omega,a2,a3,fun y hy=>?_,fun y hy=>?_,by omega,by omega⟩
 . rcases hq y hy with hy | ⟨rfl,-⟩
   . exact f7 y hy
   . exact f7 m (zy21 hm)
 . show 0<=y.id/\y.id<s.fates.length
   rcases hq y hy with hy | ⟨rfl,-⟩
   . exact g3 y hy
   . exact g3 m (zy21 hm)
 . show 0<=y.id/\y.id<s.fates.length
   rw [hout2] at hy;rcases zy20.1 hy with hy | hy
   . exact g4 y hy
   . rw [zy25] at hy;subst hy;exact g3 m (zy21 hm)
 . have h0:zug s y:=by
    rcases hq y hy with hy | ⟨rfl,ho⟩
    . exact a4 y hy
    . exact hm2 ho
   exact h0.same rfl hmid hhad
 . rw [hout2] at hy
   rcases zy20.1 hy with hy | hy
   . exact a5 y hy
   . rw [zy25] at hy;subst hy;exact ⟨by simp [zsp,x0],by simp [zsp,x0]⟩
theorem yzq {s:zah} {o:List (List Chunk)} {j:Nat} (h:PF (j+1) s) (hc:choose s<o.length):(nx s o=(⟨s,o⟩,false)/\next ⟨s,o⟩=none)\/∃ (k:Nat) (m:zak) (w:Path) (l:List Chunk),s.queue[k]?=some m/\s.out.length<60/\o[choose s]?=some l /\
 nx s o=(⟨nxS s k (choose s) m w,o.set (choose s) (l++[(x0 s m).chunk])⟩,true)/\next ⟨s,o⟩=some ⟨nxS s k (choose s) m w,o.set (choose s) (l++[(x0 s m).chunk])⟩:=by
 obtain ⟨-,hc2⟩:=zdm h.some;obtain ⟨w,hw⟩:∃ w,s.paths[choose s]?=some w:=⟨_,zy3 hc2⟩
 obtain ⟨l,hl⟩:∃ l,o[choose s]?=some l:=⟨_,zy3 hc⟩
 cases hn:next ⟨s,o⟩ with
 | none=>exact .inl ⟨by rw [nx,hn],rfl⟩
 | some q =>
  right
  have hn':=hn;unfold next at hn';split at hn'
  . cases hn'
  rename_i c0;have c0:=not_or.1 c0;have c1:=not_or.1 c0.2;cases hq:s.queue[(zei s).toNat]? with
  | none=>simp only [hq] at hn';cases hn'
  | some m =>
   simp only [hq] at hn';split at hn'
   . cases hn'
   . have hn':=Option.some.inj hn'
     rw [zft rfl hw hl] at hn';refine ⟨(zei s).toNat,m,w,l,hq,by have h2:=c1.2;dsimp only at h2;omega,hl,?_,?_⟩
     . rw [nx,hn];simp only;rw [<- hn'];rfl
     . rw [<- hn'];rfl
end Snd
namespace Snd
open Ser
structure PO (g:Config) (j n k:Nat) (p:zfl):Prop where
 pf:PF j p.s
 paths:p.s.paths.length=n
 outs:p.out.length=n
 config:p.s.config=g
 most:∀ l∈p.out,l.length<=k/\∀ c∈l,Okc c
theorem PO.mono {g:Config} {j n k k':Nat} {p:zfl} (h:PO g j n k p) (hk:k<=k'):PO g j n k' p:=⟨h.pf,h.paths,h.outs,h.config,fun l hl=>⟨zy94 (h.most l hl).1 hk,(h.most l hl).2⟩⟩
theorem zvx {o:List (List Chunk)} {k c:Nat} {l:List Chunk} {x:Chunk} (h:∀ l∈o,l.length<=k/\∀ c∈l,Okc c) (hl:o[c]?=some l) (hx:Okc x):∀ m∈o.set c (l++[x]),m.length<=k+1/\∀ c∈m,Okc c:=fun m hm=>by
 rcases zy66 hm with hm | rfl
 . obtain ⟨h1,h2⟩:=h m hm;exact ⟨by omega,h2⟩
 . obtain ⟨h1,h2⟩:=h l (zy21 hl)
   refine ⟨by simp;omega,fun c hc=>?_⟩;rcases zy20.1 hc with hc | hc
   . exact h2 c hc
   . rw [zy25] at hc;subst hc;exact hx
theorem yrz {g:Config} {j n k c:Nat} {p:zfl} (h:PO g j n k p) (hc:c<n) (i:Nat):PO g j n (k+1) (zdh c p i):=by
 obtain ⟨s,o⟩:=p;obtain ⟨w,hw⟩:∃ w,s.paths[c]?=some w:=⟨_,zy3 (by have:=h.paths;dsimp only at this;omega)⟩
 obtain ⟨l,hl⟩:∃ l,o[c]?=some l:=⟨_,zy3 (by have:=h.outs;dsimp only at this;omega)⟩
 cases hx:s.out[i]? with
 | none=>simp only [zdh,hx];exact h.mono zz0
 | some x =>
  by_cases d:x.state=3/\w.zba<w.window
  . rw [zlx hx hw hl d]
    exact ⟨xfr h.pf hx,by show (s.paths.set c _).length=_;rw [zy26];exact h.paths,by show (o.set c _).length=_;rw [zy26];exact h.outs,h.config,zvx h.most hl (h.pf.chunk x (zy21 hx))⟩
  . rw [zoz hx hw d];exact h.mono zz0
theorem ydm {g:Config} {j n c:Nat} (hc:c<n):∀ (L:List Nat) {k:Nat} {p:zfl},PO g j n k p->PO g j n (k+L.length) (L.foldl (zdh c) p)
 | [],_,_,h=>h
 | i::L,k,p,h=>(ydm hc L (yrz h hc i)).mono zz3
theorem yab {g:Config} {j n k:Nat} {p:zfl} (h:PO g j n k p):PO g j n (k+p.s.out.length) (again p):=by
 obtain ⟨-,hc2⟩:=zdm h.pf.some;have:=ydm (show choose p.s<n by rw [<- h.paths];exact hc2) (List.range p.s.out.length) h;rw [List.length_range] at this;exact this
theorem znb {g:Config} {j n k:Nat} {p:zfl} (h:PO g j n k p):PO g j n (k+1) (forward p):=by
 obtain ⟨s,o⟩:=p;obtain ⟨-,hc2⟩:=zdm h.pf.some;dsimp only at hc2;obtain ⟨l,hl⟩:∃ l,o[choose s]?=some l:=⟨_,zy3 (by have:=h.outs;have:=h.paths;dsimp only at *;omega)⟩
 obtain ⟨w,hw⟩:∃ w,s.paths[choose s]?=some w:=⟨_,zy3 hc2⟩
 unfold forward;split
 . exact h.mono zz0
 . simp only [setAt,hl,hw]
   exact ⟨xft h.pf (k:=choose s) (w:=w),by show (s.paths.set _ _).length=_;rw [zy26];exact h.paths,by show (o.set _ _).length=_;rw [zy26];exact h.outs,h.config,zvx h.most hl (ytf s)⟩
theorem zph {j:Nat} {s:zah} (h:PF j s):PO s.config j s.paths.length 0 ⟨expire s,List.replicate s.paths.length []⟩:=by
 obtain ⟨h1,r⟩:=yec h;exact ⟨h1,by rw [show (zfl.mk (expire s) _).s=expire s from rfl,r.paths],by simp,r.config,fun l hl=>by rw [zy78 hl];simp⟩
theorem ykd {g:Config} {j n k:Nat} {p:zfl} (h:PO g (j+1) n k p):(nx p.s p.out=(p,false)/\next p=none)\/∃ q,nx p.s p.out=(q,true)/\next p=some q/\p.s.out.length<60/\q.s.out.length=p.s.out.length+1/\PO g j n (k+1) q:=by
 obtain ⟨s,o⟩:=p;obtain ⟨-,hc2⟩:=zdm h.pf.some;have hp:=h.paths;have ho:=h.outs;dsimp only at hp ho hc2;rcases yzq h.pf (show choose s<o.length by omega) with h1 | ⟨i,m,w,l,h1,h2,h3,h4,h5⟩
 . exact .inl h1
 . refine .inr ⟨_,h4,h5,h2,by simp [nxS,zxg,s2],xds h.pf h1 h2,by show (s.paths.set _ _).length=_;rw [zy26];exact hp,by show (o.set _ _).length=_;rw [zy26];exact ho,h.config,zvx h.most h3 ⟨by simp [x0],by simp [x0]⟩⟩
theorem zrm {p:zfl} (h:next p=none) (j:Nat):zfu j p=p:=by cases j<;>simp [zfu,h]
theorem yxq {p:zfl} (h:p.out.length=2):p.out=[yfw p.out,ynp p.out]:=by
 obtain ⟨s,o⟩:=p
 match o,h with
 | [a,b],_=>rfl
end Snd
namespace Snd
open Ser
theorem yuz {α:Type} {l:List α} (h:l.length=1):∃ a,l=[a]:=by
 match l,h with
 | [a],_=>exact ⟨a,rfl⟩
theorem yxp {α:Type} {l:List α} (h:l.length=2):∃ a b,l=[a,b]:=by
 match l,h with
 | [a,b],_=>exact ⟨a,b,rfl⟩
abbrev xij (t:zah) (a:List Chunk) (L:List (Nat×zai)):List (Nat×zai):=(2,.live (.cells 32 ylh))::(16,.live (.cells 139 (yxt t (.own 900) (.own 901) (.own 902) (.own 903) (.own 904) (.own 905) (.own 14))))::zzg t 900 901 902 903 904 905 ((14,.live (.cells 145 [.own 906]))::(906,zxb a)::L)
abbrev xik (t:zah) (a b:List Chunk) (L:List (Nat×zai)):List (Nat×zai):=(2,.live (.cells 32 ylh))::(16,.live (.cells 139 (yxt t (.own 900) (.own 901) (.own 902) (.own 903) (.own 904) (.own 905) (.own 14))))::zzg t 900 901 902 903 904 905 ((14,.live (.cells 145 [.own 906,.own 907]))::(906,zxb a)::(907,zxb b)::L)
theorem zgo {α β:Type} (f:α->β) (A:List α) (p:α) (B:List β):(A++[p]).map f++B=A.map f++f p::B:=by simp
theorem yku (s:zah) (h:PF 62 s) (hm:inI s.config.packet) (h1p:s.paths.length=1) :
 zan Tryz.prog 39 [s.hv] zad (.tup [xem (zjs s).1 0 1 2 3 4 5,.own 6]) (lk .free (zzg (zjs s).1 0 1 2 3 4 5 [(6,zhc (zjs s).2)])):=by
 have h0:=h.g.fit;have e1:PO s.config 62 1 0 ⟨expire s,[[]]⟩:=by have:=zph h;rw [h1p] at this;exact this
 have e2:=znb e1;have e3:=yab e2;have hF:zfu 61 (again (forward ⟨expire s,[[]]⟩))=zml s:=by rw [zml,h1p];rfl
 have hfew:=e2.pf.few;rw [show zjs s=(yde (zml s).s,zbs s.config.packet 0 (zml s).out) from rfl];generalize zml s=F at hF ⊢;dsimp only;refine zap mixed Tryz.func39 zz4 [] (fun _=>.inl rfl) ?_;(conv=>whnf)
 (refine zat [(0,20),(1,21),(2,22),(3,23),(4,24),(5,25)]  ?_;(conv=>whnf);refine dO (zdt s h0) ?_)
 refine zaa ⟨by omega,rfl,by rw [zy2,h1p];decide⟩ (zw ?_);refine ⟨1,by rw [zy2,h1p],by decide,zw ?_⟩;refine sD ?_
 (refine zae [] [(1000,16),(1001,20),(1002,21),(1003,22),(1004,23),(1005,24),(1006,25),(1007,14)] [(0,930),(1,931),(2,932),(3,933),(4,934),(5,935)] ?_;(conv=>whnf);refine dG (yhg s h.g) ?_)
 (refine zae [] [(1000,16),(1001,930),(1002,931),(1003,932),(1004,933),(1005,934),(1006,935),(1007,14)] [(0,940)] ?_;(conv=>whnf);refine dG (ycl (expire s) zz137 e1.paths) ?_)
 generalize forward ⟨expire s,[[]]⟩=P1 at e2 e3 hF hfew ⊢;obtain ⟨t1,o1⟩:=P1;obtain ⟨a1,rfl⟩:=yuz e2.outs
 (refine zae [] [(1000,16),(1001,930),(1002,931),(1003,932),(1004,933),(1005,934),(1006,935),(1007,14),(1008,940)] [(0,950)] ?_;(conv=>whnf);refine dG (yko t1 a1 (by dsimp only at hfew;omega) e2.paths (by have:=(e2.most a1 (by simp)).1;omega)) ?_)
 generalize again ⟨t1,[a1]⟩=P2 at e3 hF ⊢;obtain ⟨t2,o2⟩:=P2;obtain ⟨a2,rfl⟩:=yuz e3.outs;dsimp only at hfew;refine ⟨{x:Nat×zah×List Chunk // zfu x.1 ⟨x.2.1,[x.2.2]⟩=F/\PO s.config (x.1+1) 1 (2 ^ 27+99-x.1) ⟨x.2.1,[x.2.2]⟩/\61<=x.1+x.2.1.out.length/\x.1<=61},
  fun | ⟨(j,t,a),_⟩=>hs 106 [(2,.ptr 2 0),(3,zee),(4,.ptr 16 0)] (xij t a []),fun x=>x.1.1,⟨(61,t2,a2),hF,e3.mono zz81,by dsimp only;omega,by dsimp only;omega⟩,?_,?_⟩
 . exact (zbi [(2,some 2),(16,some 16),(14,some 14),(900,some 930),(901,some 931),(902,some 932),(903,some 933),(904,some 934),(905,some 935),(906,some 950)])
 rintro ⟨⟨j,t,a⟩,k1,k2,k3,k4⟩;dsimp only at k1 k2 k3 k4;have km:=k2.most a zz5;(conv=>whnf);have hn:=zry t a k2.pf.nfit k2.paths zz0;rcases ykd k2 with ⟨n1,n2⟩ | ⟨q,n1,n2,n3,n4,n5⟩
 case inr =>
  obtain ⟨u,o⟩:=q;have n6:=n5.outs;obtain ⟨b,rfl⟩:=yuz n6;dsimp only at n1 n3 n4;rw [n1] at hn
  (refine zae [] [(1000,16),(1001,900),(1002,901),(1003,902),(1004,903),(1005,904),(1006,905),(1007,14),(1008,906)] [(0,930),(1,931),(2,932),(3,933),(4,934),(5,935),(6,950)] ?_;(conv=>whnf);refine dG hn ?_)
  obtain ⟨j,rfl⟩:∃ j',j=j'+1:=⟨j-1,by omega⟩
  rw [zfu,n2] at k1;exact ⟨⟨(j,u,b),k1,n5.mono zz0,by dsimp only;omega,by dsimp only;omega⟩,(zbi [(2,some 2),(16,some 16),(14,some 14),(900,some 930),(901,some 931),(902,some 932),(903,some 933),(904,some 934),(905,some 935),(906,some 950)]),by dsimp only;omega⟩
 case inl =>
  dsimp only at n1;rw [n1] at hn;rw [zrm n2] at k1;subst k1
  (refine zae [] [(1000,16),(1001,900),(1002,901),(1003,902),(1004,903),(1005,904),(1006,905),(1007,14),(1008,906)] [(0,930),(1,931),(2,932),(3,933),(4,934),(5,935),(6,950)] ?_;(conv=>whnf);refine dG hn ?_)
  (refine zae [] [(1000,932)] [(0,960)] ?_;(conv=>whnf);refine dG (Sco.zfd t.out t.cum zz138) ?_)
  refine sD ?_;generalize hN:(Sco.zdx t.out t.cum).1=N;have kfew:=k2.pf.few;have kpl:=k2.paths;dsimp only at kfew kpl;refine ⟨{x:List Path×List Path // t.paths=x.1++x.2},fun | ⟨(A,B),_⟩=>hs 106 [(2,.ptr 2 0),(3,zee),(4,.ptr 16 0),(5,i64 N),(44,i64 t.paths.length),(45,i64 A.length)] (xij {t with paths:=A.map (zfv t N)++B} a []),fun x=>x.1.2.length,⟨([],t.paths),rfl⟩,?_,?_⟩
  . exact (zbi [(2,some 2),(16,some 16),(14,some 14),(900,some 930),(901,some 931),(902,some 932),(903,some 933),(904,some 934),(905,some 935),(906,some 950)])
  rintro ⟨⟨A,B⟩,h⟩;dsimp only at h;(conv=>whnf);cases B with
  | cons p B =>
   have hz:=zbe h;refine sT ?_;refine sOm ?_;refine zaj (a:=A.map (zfv t N)) (b:=B) (s:=p) rfl zz5 (zw ?_);by_cases d1:p.zba>0
   case pos =>
    rw [show decide (p.zba>0)=true from zy10 d1];refine zac rfl (zw ?_)
    repeat refine sG ?_
    refine zaj (a:=A.map (zfv t N)) (b:=B) (s:=p) rfl zz5 (zw ?_);by_cases d2:p.zcs=0
    case pos =>
     rw [show (p.zcs==0)=true from zy15.2 d2];(conv=>whnf);refine zaj (a:=A.map (zfv t N)) (b:=B) (s:=p) rfl zz5 (zw ?_);refine sR ?_;refine zaj (a:=A.map (zfv t N)) (b:=B) (s:=p) rfl zz5 (zw ?_);refine sD ?_;refine sF ?_;exact ⟨⟨(A++[p],B),zag h⟩,(zaz ((2,some 2)::((16,some 16)::((14,some 14)::(pJ7 [])))) zz30),by simp⟩
    case neg =>
     rw [show (p.zcs==0)=false from zy5.2 d2];(conv=>whnf);refine zaj (a:=A.map (zfv t N)) (b:=B) (s:=p) rfl zz5 (zw ?_);by_cases d3:p.zba=0
     case pos =>
      rw [show (p.zba==0)=true from zy15.2 d3];refine zac rfl (zw ?_)
      repeat refine sG ?_
      by_cases d4:N=t.cum
      case pos =>
       rw [show (N==t.cum)=true from zy15.2 d4];(conv=>whnf);have d6:zfv t N p={p with zcs:=0}:=by rw [zfv,zy0 (fun h=>d2 h.2),zy1 ⟨d3,d4⟩]
       exact yy102
      case neg =>
       rw [show (N==t.cum)=false from zy5.2 d4];(conv=>whnf);have d6:zfv t N p=p:=by rw [zfv,zy0 (fun h=>d2 h.2),zy0 (fun h=>d4 h.2)]
       exact yy46
     case neg =>
      rw [show (p.zba==0)=false from zy5.2 d3];(conv=>whnf);have d6:zfv t N p=p:=by rw [zfv,zy0 (fun h=>d2 h.2),zy0 (fun h=>d3 h.1)]
      exact yy46
   case neg =>
    rw [show decide (p.zba>0)=false from zy11 d1];(conv=>whnf);refine zaj (a:=A.map (zfv t N)) (b:=B) (s:=p) rfl zz5 (zw ?_);by_cases d3:p.zba=0
    case pos =>
     rw [show (p.zba==0)=true from zy15.2 d3];refine zac rfl (zw ?_)
     repeat refine sG ?_
     by_cases d4:N=t.cum
     case pos =>
      rw [show (N==t.cum)=true from zy15.2 d4];(conv=>whnf);have d6:zfv t N p={p with zcs:=0}:=by rw [zfv,zy0 (fun h=>d1 h.1),zy1 ⟨d3,d4⟩]
      exact yy102
     case neg =>
      rw [show (N==t.cum)=false from zy5.2 d4];(conv=>whnf);have d6:zfv t N p=p:=by rw [zfv,zy0 (fun h=>d1 h.1),zy0 (fun h=>d4 h.2)]
      exact yy46
    case neg =>
     rw [show (p.zba==0)=false from zy5.2 d3];(conv=>whnf);have d6:zfv t N p=p:=by rw [zfv,zy0 (fun h=>d1 h.1),zy0 (fun h=>d3 h.1)]
     exact yy46
  | nil =>
   have hz:=zbn h;rw [zy4] at h;refine sN ?_
   (refine zae [] [(1000,16),(1001,900),(1002,901),(1003,902),(1004,903),(1005,904),(1006,905),(1007,14),(1008,906)] [(0,970)] ?_;(conv=>whnf);refine dG (yco {t with paths:=A.map (zfv t N)++[]} a zz107 zz0 km.2) ?_)
   exact yy23
theorem ykv (s:zah) (h:PF 62 s) (hm:inI s.config.packet) (h1p:s.paths.length=2) :
 zan Tryz.prog 39 [s.hv] zad (.tup [xem (zjs s).1 0 1 2 3 4 5,.own 6]) (lk .free (zzg (zjs s).1 0 1 2 3 4 5 [(6,zhc (zjs s).2)])):=by
 have h0:=h.g.fit;have e1:PO s.config 62 2 0 ⟨expire s,[[],[]]⟩:=by have:=zph h;rw [h1p] at this;exact this
 have e2:=znb e1;have e3:=yab e2;have hF:zfu 61 (again (forward ⟨expire s,[[],[]]⟩))=zml s:=by rw [zml,h1p];rfl
 have hfew:=e2.pf.few;rw [show zjs s=(yde (zml s).s,zbs s.config.packet 0 (zml s).out) from rfl];generalize zml s=F at hF ⊢;dsimp only;refine zap mixed Tryz.func39 zz4 [] (fun _=>.inl rfl) ?_;(conv=>whnf)
 (refine zat [(0,20),(1,21),(2,22),(3,23),(4,24),(5,25)]  ?_;(conv=>whnf);refine dO (zdt s h0) ?_)
 refine zaa ⟨by omega,rfl,by rw [zy2,h1p];decide⟩ (zw ?_);refine ⟨2,by rw [zy2,h1p],by decide,zw ?_⟩;refine sD ?_
 (refine zae [] [(1000,16),(1001,20),(1002,21),(1003,22),(1004,23),(1005,24),(1006,25),(1007,14)] [(0,930),(1,931),(2,932),(3,933),(4,934),(5,935)] ?_;(conv=>whnf);refine dG (yhh s h.g) ?_)
 (refine zae [] [(1000,16),(1001,930),(1002,931),(1003,932),(1004,933),(1005,934),(1006,935),(1007,14)] [(0,940),(1,941)] ?_;(conv=>whnf);refine dG (ycm (expire s) zz137 e1.paths) ?_)
 generalize forward ⟨expire s,[[],[]]⟩=P1 at e2 e3 hF hfew ⊢;obtain ⟨t1,o1⟩:=P1;obtain ⟨a1,b1,rfl⟩:=yxp e2.outs
 (refine zae [] [(1000,16),(1001,930),(1002,931),(1003,932),(1004,933),(1005,934),(1006,935),(1007,14),(1008,940),(1009,941)] [(0,950),(1,951)] ?_;(conv=>whnf);refine dG (ykp t1 a1 b1 (by dsimp only at hfew;omega) e2.paths (by have:=(e2.most a1 (by simp)).1;have:=(e2.most b1 (by simp)).1;omega)) ?_)
 generalize again ⟨t1,[a1,b1]⟩=P2 at e3 hF ⊢;obtain ⟨t2,o2⟩:=P2;obtain ⟨a2,b2,rfl⟩:=yxp e3.outs;dsimp only at hfew;refine ⟨{x:Nat×zah×List Chunk×List Chunk // zfu x.1 ⟨x.2.1,[x.2.2.1,x.2.2.2]⟩=F/\PO s.config (x.1+1) 2 (2 ^ 27+99-x.1) ⟨x.2.1,[x.2.2.1,x.2.2.2]⟩/\61<=x.1+x.2.1.out.length/\x.1<=61},
  fun | ⟨(j,t,a,b),_⟩=>hs 106 [(2,.ptr 2 0),(3,zee),(4,.ptr 16 0)] (xik t a b []),fun x=>x.1.1,⟨(61,t2,a2,b2),hF,e3.mono zz81,by dsimp only;omega,by dsimp only;omega⟩,?_,?_⟩
 . exact (zbi [(2,some 2),(16,some 16),(14,some 14),(900,some 930),(901,some 931),(902,some 932),(903,some 933),(904,some 934),(905,some 935),(906,some 950),(907,some 951)])
 rintro ⟨⟨j,t,a,b⟩,k1,k2,k3,k4⟩;dsimp only at k1 k2 k3 k4;have km:=k2.most a zz5;have kn:=k2.most b zz5;(conv=>whnf);have hn:=yqr t a b k2.pf.nfit k2.paths zz0;rcases ykd k2 with ⟨n1,n2⟩ | ⟨q,n1,n2,n3,n4,n5⟩
 case inr =>
  obtain ⟨u,o⟩:=q;have n6:=n5.outs;obtain ⟨a',b',rfl⟩:=yxp n6;dsimp only at n1 n3 n4;rw [n1] at hn
  (refine zae [] [(1000,16),(1001,900),(1002,901),(1003,902),(1004,903),(1005,904),(1006,905),(1007,14),(1008,906),(1009,907)] [(0,930),(1,931),(2,932),(3,933),(4,934),(5,935),(6,950),(7,951)] ?_;(conv=>whnf);refine dG hn ?_)
  obtain ⟨j,rfl⟩:∃ j',j=j'+1:=⟨j-1,by omega⟩
  rw [zfu,n2] at k1;exact ⟨⟨(j,u,a',b'),k1,n5.mono zz0,by dsimp only;omega,by dsimp only;omega⟩,(zbi [(2,some 2),(16,some 16),(14,some 14),(900,some 930),(901,some 931),(902,some 932),(903,some 933),(904,some 934),(905,some 935),(906,some 950),(907,some 951)]),by dsimp only;omega⟩
 case inl =>
  dsimp only at n1;rw [n1] at hn;rw [zrm n2] at k1;subst k1
  (refine zae [] [(1000,16),(1001,900),(1002,901),(1003,902),(1004,903),(1005,904),(1006,905),(1007,14),(1008,906),(1009,907)] [(0,930),(1,931),(2,932),(3,933),(4,934),(5,935),(6,950),(7,951)] ?_;(conv=>whnf);refine dG hn ?_)
  (refine zae [] [(1000,932)] [(0,960)] ?_;(conv=>whnf);refine dG (Sco.zfd t.out t.cum zz138) ?_)
  refine sD ?_;generalize hN:(Sco.zdx t.out t.cum).1=N;have kfew:=k2.pf.few;have kpl:=k2.paths;dsimp only at kfew kpl;refine ⟨{x:List Path×List Path // t.paths=x.1++x.2},fun | ⟨(A,B),_⟩=>hs 106 [(2,.ptr 2 0),(3,zee),(4,.ptr 16 0),(5,i64 N),(44,i64 t.paths.length),(45,i64 A.length)] (xik {t with paths:=A.map (zfv t N)++B} a b []),fun x=>x.1.2.length,⟨([],t.paths),rfl⟩,?_,?_⟩
  . exact (zbi [(2,some 2),(16,some 16),(14,some 14),(900,some 930),(901,some 931),(902,some 932),(903,some 933),(904,some 934),(905,some 935),(906,some 950),(907,some 951)])
  rintro ⟨⟨A,B⟩,h⟩;dsimp only at h;(conv=>whnf);cases B with
  | cons p B =>
   have hz:=zbe h;refine sT ?_;refine sOm ?_;refine zaj (a:=A.map (zfv t N)) (b:=B) (s:=p) rfl zz5 (zw ?_);by_cases d1:p.zba>0
   case pos =>
    rw [show decide (p.zba>0)=true from zy10 d1];refine zac rfl (zw ?_)
    repeat refine sG ?_
    refine zaj (a:=A.map (zfv t N)) (b:=B) (s:=p) rfl zz5 (zw ?_);by_cases d2:p.zcs=0
    case pos =>
     rw [show (p.zcs==0)=true from zy15.2 d2];(conv=>whnf);refine zaj (a:=A.map (zfv t N)) (b:=B) (s:=p) rfl zz5 (zw ?_);refine sR ?_;refine zaj (a:=A.map (zfv t N)) (b:=B) (s:=p) rfl zz5 (zw ?_);refine sD ?_;refine sF ?_;exact ⟨⟨(A++[p],B),zag h⟩,(zaz ((2,some 2)::((16,some 16)::((14,some 14)::(pJ8 [])))) zz30),by simp⟩
    case neg =>
     rw [show (p.zcs==0)=false from zy5.2 d2];(conv=>whnf);refine zaj (a:=A.map (zfv t N)) (b:=B) (s:=p) rfl zz5 (zw ?_);by_cases d3:p.zba=0
     case pos =>
      rw [show (p.zba==0)=true from zy15.2 d3];refine zac rfl (zw ?_)
      repeat refine sG ?_
      by_cases d4:N=t.cum
      case pos =>
       rw [show (N==t.cum)=true from zy15.2 d4];(conv=>whnf);have d6:zfv t N p={p with zcs:=0}:=by rw [zfv,zy0 (fun h=>d2 h.2),zy1 ⟨d3,d4⟩]
       exact yy103
      case neg =>
       rw [show (N==t.cum)=false from zy5.2 d4];(conv=>whnf);have d6:zfv t N p=p:=by rw [zfv,zy0 (fun h=>d2 h.2),zy0 (fun h=>d4 h.2)]
       exact yy47
     case neg =>
      rw [show (p.zba==0)=false from zy5.2 d3];(conv=>whnf);have d6:zfv t N p=p:=by rw [zfv,zy0 (fun h=>d2 h.2),zy0 (fun h=>d3 h.1)]
      exact yy47
   case neg =>
    rw [show decide (p.zba>0)=false from zy11 d1];(conv=>whnf);refine zaj (a:=A.map (zfv t N)) (b:=B) (s:=p) rfl zz5 (zw ?_);by_cases d3:p.zba=0
    case pos =>
     rw [show (p.zba==0)=true from zy15.2 d3];refine zac rfl (zw ?_)
     repeat refine sG ?_
     by_cases d4:N=t.cum
     case pos =>
      rw [show (N==t.cum)=true from zy15.2 d4];(conv=>whnf);have d6:zfv t N p={p with zcs:=0}:=by rw [zfv,zy0 (fun h=>d1 h.1),zy1 ⟨d3,d4⟩]
      exact yy103
     case neg =>
      rw [show (N==t.cum)=false from zy5.2 d4];(conv=>whnf);have d6:zfv t N p=p:=by rw [zfv,zy0 (fun h=>d1 h.1),zy0 (fun h=>d4 h.2)]
      exact yy47
    case neg =>
     rw [show (p.zba==0)=false from zy5.2 d3];(conv=>whnf);have d6:zfv t N p=p:=by rw [zfv,zy0 (fun h=>d1 h.1),zy0 (fun h=>d3 h.1)]
     exact yy47
  | nil =>
   have hz:=zbn h;rw [zy4] at h;refine sN ?_
   (refine zae [] [(1000,16),(1001,900),(1002,901),(1003,902),(1004,903),(1005,904),(1006,905),(1007,14),(1008,906),(1009,907)] [(0,970)] ?_;(conv=>whnf);refine dG (ycp {t with paths:=A.map (zfv t N)++[]} a b zz107 zz0 zz0 km.2 kn.2) ?_)
   exact yy23
end Snd
namespace Snd
open Ser
theorem zmp (s:zah) (h:PF 62 s) (hm:inI s.config.packet) (hp:s.paths.length=1\/s.paths.length=2) :
 zan Tryz.prog 39 [s.hv] zad (.tup [(zjs s).1.hv,.p (.sl 3 ((zjs s).2.map zau.row))]) zad:=by
 rcases hp with hp | hp
 . refine zcn Tryz.func39 (yku s h hm hp) ?_
   generalize zjs s=d;(conv=>whnf)
   rfl
 . refine zcn Tryz.func39 (ykv s h hm hp) ?_
   generalize zjs s=d;(conv=>whnf)
   rfl
theorem zwl (s:zah) (hs:Fit s):zan Tryz.prog 33 [s.hv] zad s.hv zad:=by
 refine zcn Tryz.func33 (zdt s hs) ?_;(conv=>whnf)
 rfl
def zju (c:Config):Int :=
 if c.streams<1\/c.streams>4\/c.paths<1\/c.paths>2\/c.part<1\/c.part>16\/c.packet<40\/c.packet>120\/c.waiting<1\/c.waiting>12\/c.first<0\/c.first>=65536 then 3 else
 if (c).turns<1\/(c).turns>5 then 1 else 0
theorem yxk (c:Config):zan Tryz.prog 29 [c.hv] zad (i64 (zju c)) zad:=by
 refine zal mixed Tryz.func29 zz4 ?_;(conv=>whnf)
 (repeat' (first | (refine zce ?_;conv=>whnf) | (refine zaa ?_ ?_;(first | kernel_rfl | decide);conv=>whnf) | (refine zaw ?_ ?_;kernel_rfl;conv=>whnf) | (refine zhs.go ?_;conv=>whnf) | (refine zaf (fun h=>?_) (fun h=>?_)<;>conv=>whnf)))
 all_goals try simp only [zy44,zy47,zy15,zy5,zy43,zy28] at *
 all_goals first | (simp only [zju];(repeat' split)<;>first | rfl | omega) | trace_state
end Snd
namespace Snd
open Ser
def zon (s:zah) (m:Message):zah×Int×Int:=if zep s m=0 then (zhv s m,(s.fates.length:Int),0) else (noS,0,zep s m)
theorem zjm {s:zah} {m:Message} {e:Int} (h:zep s m=e) (he:e≠0):zon s m=(noS,0,e):=by rw [zon,h,zy0 he]
theorem zqa {s:zah} {m:Message} (h:zep s m=0):zon s m=(zhv s m,(s.fates.length:Int),0):=by rw [zon,zy1 h]
theorem yrj (s:zah) (m:Message) (hs:Fit s) (hd:m.data.length<2 ^ 38) :
 zan Tryz.prog 31 [s.hv,m.hv] zad (.tup [xem (zon s m).1 0 1 2 3 4 5,i64 (zon s m).2.1,i64 (zon s m).2.2]) (lk .free (zzg (zon s m).1 0 1 2 3 4 5 [])):=by
 have hs':=hs;obtain ⟨h1,h2,h3,h4,h5,h6,h7⟩:=hs;refine zap mixed Tryz.func31 zz4 [] (fun _=>.inl rfl) ?_;(conv=>whnf)
 (repeat' (first | (refine zce ?_;conv=>whnf) | (refine zaa ?_ ?_;(first | kernel_rfl | decide);conv=>whnf) | (refine zaw ?_ ?_;kernel_rfl;conv=>whnf) | (refine zhs.go ?_;conv=>whnf) | (refine zaf (fun h=>?_) (fun h=>?_)<;>conv=>whnf)))
 all_goals try simp only [zy44,zy47,zy15,zy5,zy43,zy28,zy2] at *
 all_goals first
  | (rw [zjm (e:=3) (by simp only [zep];(repeat' split)<;>first | rfl | omega) (by decide)];exact zao [(0,none),(1,none),(2,none),(3,none),(4,none),(5,none)] rfl rfl trivial rfl rfl ⟨⟨rfl,.inr ⟨rfl,rfl⟩⟩,⟨rfl,.inr ⟨rfl,rfl⟩⟩,⟨rfl,.inr ⟨rfl,rfl⟩⟩,⟨rfl,.inr ⟨rfl,rfl⟩⟩,⟨rfl,.inr ⟨rfl,rfl⟩⟩,⟨rfl,.inr ⟨rfl,rfl⟩⟩,trivial⟩)
  | (rw [zjm (e:=4) (by simp only [zep];(repeat' split)<;>first | rfl | omega) (by decide)];exact zao [(0,none),(1,none),(2,none),(3,none),(4,none),(5,none)] rfl rfl trivial rfl rfl ⟨⟨rfl,.inr ⟨rfl,rfl⟩⟩,⟨rfl,.inr ⟨rfl,rfl⟩⟩,⟨rfl,.inr ⟨rfl,rfl⟩⟩,⟨rfl,.inr ⟨rfl,rfl⟩⟩,⟨rfl,.inr ⟨rfl,rfl⟩⟩,⟨rfl,.inr ⟨rfl,rfl⟩⟩,trivial⟩)
  | (rw [zjm (e:=7) (by simp only [zep];(repeat' split)<;>first | rfl | omega) (by decide)];exact zao [(0,none),(1,none),(2,none),(3,none),(4,none),(5,none)] rfl rfl trivial rfl rfl ⟨⟨rfl,.inr ⟨rfl,rfl⟩⟩,⟨rfl,.inr ⟨rfl,rfl⟩⟩,⟨rfl,.inr ⟨rfl,rfl⟩⟩,⟨rfl,.inr ⟨rfl,rfl⟩⟩,⟨rfl,.inr ⟨rfl,rfl⟩⟩,⟨rfl,.inr ⟨rfl,rfl⟩⟩,trivial⟩)
  | rw [zqa (by simp only [zep];(repeat' split)<;>first | rfl | omega)]
 (refine zat [(0,20),(1,21),(2,22),(3,23),(4,24),(5,25)]  ?_;(conv=>whnf);refine dO (zdt s hs') ?_)
 (refine zat [(0,26)]  ?_;(conv=>whnf);refine dO (Cl.zdb m.data zz0) ?_)
 refine zaa (c:=((s.queue.map zak.row).length+1)*96<=140737488355328) zz3 (zw ?_);refine zaa (c:=((s.fates.map fun n=>[pi n]).length+1)*8<=140737488355328) zz3 (zw ?_);refine zao [(0,some 80),(1,some 21),(2,some 22),(3,some 23),(4,some 24),(5,some 85)] rfl rfl trivial rfl (by rw [show (s.fates.length:Int)=((s.fates.map fun n=>[pi n]).length:Nat) by rw [zy2]];rfl) ⟨⟨rfl,.inl ⟨80,rfl,?_⟩⟩,⟨rfl,.inl ⟨21,rfl,rfl⟩⟩,⟨rfl,.inl ⟨22,rfl,rfl⟩⟩,⟨rfl,.inl ⟨23,rfl,rfl⟩⟩,⟨rfl,.inl ⟨24,rfl,rfl⟩⟩,⟨rfl,.inl ⟨85,rfl,?_⟩⟩,trivial⟩
 . exact zbc (f:=zak.row) rfl (by rw [zy2];rfl)
 . exact zbc (f:=fun n:Int=>[pi n]) rfl rfl
theorem yxc (s:zah) (m:Message) (hs:Fit s) (hd:m.data.length<2 ^ 38) :
 zan Tryz.prog 31 [s.hv,m.hv] zad (.tup [(zon s m).1.hv,i64 (zon s m).2.1,i64 (zon s m).2.2]) zad:=by
 refine zcn Tryz.func31 (yrj s m hs hd) ?_;generalize zon s m=d;(conv=>whnf)
 rfl
end Snd
namespace Snd
open Ser
theorem zyo {l:List zbo} (i:Int) (h:Sco.zeu l):Sco.zeu (l.map (Sco.late i)):=⟨by simpa using h.len,by
 have:Sco.total (l.map (Sco.late i))=Sco.total l:=by
  simp only [Sco.total,zy113];congr 1;apply zy93;intro x _;simp only [Function.comp,Sco.late];split<;>rfl
 rw [this];exact h.bytes⟩
def zrg (part:Int) (s:zah) (i:Nat) (p:Path):zah:={s with out:=s.out.map (Sco.late i),paths:=s.paths.set i (Paths.late p part)}
theorem znc {part:Int} {s:zah} {i:Nat} {p:Path} (hp:s.paths[i]?=some p) (h:p.zcs=0\/s.clock<p.zcs):znq part s i=s:=by
 simp only [znq,hp];rw [zy1 h]
theorem yne {part:Int} {s:zah} {i:Nat} {p:Path} (hp:s.paths[i]?=some p) (h:¬ (p.zcs=0\/s.clock<p.zcs)):znq part s i=if (Sco.zdx (zrg part s i p).out s.cum).1>s.cum then {zrg part s i p with forward:=true} else zrg part s i p:=by
 simp only [znq,hp];rw [zy0 h];rfl
abbrev tkF (s t:zah):List (Nat×zai):=(1,.live (.cells 32 (ycf s (Sch.qs s.queue) (ints s.sched.had) (Sco.zdy s.out) (zov s.paths) (ints s.mids) (ints s.fates))))::(2,.live (.cells 32 ylh))::(3,.live (.cells 32 (ycf t (.own 900) (.own 901) (.own 902) (.own 903) (.own 904) (.own 905))))::zzg t 900 901 902 903 904 905 []
theorem yrn (s:zah) (hs:Fit s):zan Tryz.prog 36 [s.hv] zad (xem (tick s) 0 1 2 3 4 5) (lk .free (zzg (tick s) 0 1 2 3 4 5 [])):=by
 have hs':=hs;obtain ⟨h1,h2,h3,h4,h5,h6,h7⟩:=hs;have hT:(List.range s.paths.length).foldl (znq s.config.part) {s with clock:=W (s.clock+1)}=tick s:=rfl;generalize tick s=T at hT ⊢;refine zap mixed Tryz.func36 zz4 [] (fun _=>.inl rfl) ?_;(conv=>whnf)
 (refine zat [(0,20),(1,21),(2,22),(3,23),(4,24),(5,25)]  ?_;(conv=>whnf);refine dO (zdt s hs') ?_)
 refine sR ?_;refine ⟨{x:Nat×zah // x.1<=s.paths.length/\(List.range x.1).foldl (znq s.config.part) {s with clock:=W (s.clock+1)}=x.2/\Sco.zeu x.2.out/\x.2.paths.length=s.paths.length},
  fun | ⟨(i,t),_⟩=>hs 61 [(1,.ptr 1 0),(2,.ptr 2 0),(3,.ptr 3 0),(15,.own 903),(16,i64 s.paths.length),(17,i64 i)] (tkF s t),fun x=>s.paths.length-x.1.1,⟨(0,{s with clock:=W (s.clock+1)}),by dsimp only;omega,rfl,h3,rfl⟩,?_,?_⟩
 . exact (zbi [(1,some 1),(2,some 2),(3,some 3),(900,some 20),(901,some 21),(902,some 22),(903,some 23),(904,some 24),(905,some 25)])
 rintro ⟨⟨i,t⟩,k1,k2,k3,k4⟩;dsimp only at k1 k2 k3 k4;(conv=>whnf);by_cases hi:i<s.paths.length
 case neg =>
  have hin:i=s.paths.length:=by omega
  subst hin;refine sN ?_;rw [hT] at k2;subst k2;exact zao [(0,some 900),(1,some 901),(2,some 902),(3,some 903),(4,some 904),(5,some 905)] rfl rfl trivial rfl rfl ⟨⟨rfl,.inl ⟨900,rfl,rfl⟩⟩,⟨rfl,.inl ⟨901,rfl,rfl⟩⟩,⟨rfl,.inl ⟨902,rfl,rfl⟩⟩,⟨rfl,.inl ⟨903,rfl,rfl⟩⟩,⟨rfl,.inl ⟨904,rfl,rfl⟩⟩,⟨rfl,.inl ⟨905,rfl,rfl⟩⟩,trivial⟩
 case pos =>
  obtain ⟨p,hp⟩:∃ p,t.paths[i]?=some p:=⟨_,zy3 zz0⟩
  have hst:=zij (znq s.config.part) {s with clock:=W (s.clock+1)} i;rw [k2] at hst;refine sT ?_;refine sOm ?_;refine zam hp rfl (zw ?_);by_cases c1:p.zcs=0
  case pos =>
   rw [show (p.zcs==0)=true from zy15.2 c1];(conv=>whnf);refine sF ?_;exact ⟨⟨(i+1,t),by dsimp only;omega,by rw [hst,znc hp (.inl c1)],k3,k4⟩,(zaz ((1,some 1)::(2,some 2)::(3,some 3)::(pJ6 [])) zz2),by dsimp only;omega⟩
  case neg =>
   rw [show (p.zcs==0)=false from zy5.2 c1];refine zab rfl (zw ?_)
   repeat refine sG ?_
   by_cases c2:t.clock<p.zcs
   case pos =>
    rw [show decide (t.clock<p.zcs)=true from zy10 c2];(conv=>whnf);refine sF ?_;exact ⟨⟨(i+1,t),by dsimp only;omega,by rw [hst,znc hp (.inr c2)],k3,k4⟩,(zaz ((1,some 1)::(2,some 2)::(3,some 3)::(pJ6 [])) zz2),by dsimp only;omega⟩
   case neg =>
    rw [show decide (t.clock<p.zcs)=false from zy11 c2];(conv=>whnf);have hgo:=yne (part:=s.config.part) hp (fun h=>h.elim c1 c2)
    (refine zat [(0,35)]  ?_;(conv=>whnf);refine dO (Sco.zwj t.out i k3) ?_)
    (refine cL ?_;refine dL (Paths.zwj p s.config.part) ?_)
    refine zaa ⟨by omega,by rw [zy2];omega⟩ (zw ?_);refine zam hp rfl (zw ?_);refine sD ?_
    (refine zae [] [(1000,35)] [(0,51)] ?_;(conv=>whnf);refine dG (Sco.zfd (t.out.map (Sco.late i)) t.cum (by rw [zy2];exact k3.len)) ?_)
    have hsz:=zyo i k3;by_cases c3:(Sco.zdx (t.out.map (Sco.late i)) t.cum).1>t.cum
    case pos =>
     rw [zy1 (show (Sco.zdx (zrg s.config.part t i p).out t.cum).1>t.cum from c3)] at hgo;refine zac ?_ ?_
     . simpa using c3
     (conv=>whnf);refine sF ?_;exact ⟨⟨(i+1,{zrg s.config.part t i p with forward:=true}),by dsimp only;omega,by rw [hst,hgo],hsz,by show (t.paths.set i _).length=_;rw [zy26];exact k4⟩,(zaz [(1,some 1),(2,some 2),(3,some 3),(900,some 900),(901,some 901),(902,some 35),(903,some 903),(904,some 904),(905,some 905)] zz56),by dsimp only;omega⟩
    case neg =>
     rw [zy0 (show ¬ (Sco.zdx (zrg s.config.part t i p).out t.cum).1>t.cum from c3)] at hgo;refine zab ?_ ?_
     . simpa using c3
     (conv=>whnf);refine sF ?_;exact ⟨⟨(i+1,zrg s.config.part t i p),by dsimp only;omega,by rw [hst,hgo],hsz,by show (t.paths.set i _).length=_;rw [zy26];exact k4⟩,(zaz [(1,some 1),(2,some 2),(3,some 3),(900,some 900),(901,some 901),(902,some 35),(903,some 903),(904,some 904),(905,some 905)] zz56),by dsimp only;omega⟩
theorem yxh (s:zah) (hs:Fit s):zan Tryz.prog 36 [s.hv] zad (tick s).hv zad:=by
 refine zcn Tryz.func36 (yrn s hs) ?_;generalize tick s=d;(conv=>whnf)
 rfl
end Snd
namespace Snd
open Ser
def yii (c:Config):zah×Int:=if zju c=0 then (ydi c,0) else (noS,zju c)
theorem ywr (n:Int) (hb:n<2 ^ 40):zan Tryz.prog 66 [i64 n] zad (.agg [i64 (Sch.new n).last,i64 (Sch.new n).hand,.own 0]) (lk .free [(0,zxc (Sch.new n).had)]):=by
 refine zap mixed Tryz.func66 zz4 [] (fun _=>.inl rfl) ?_;(conv=>whnf);refine zce (zw ?_);refine zaa (c:=0<=(if 0>n then 0 else n)/\(if 0>n then 0 else n)=(if 0>n then 0 else n)/\(if 0>n then 0 else n)*8<=140737488355328) zz0 ?_;(conv=>whnf);refine zao [(0,some 7)] rfl rfl trivial rfl rfl ⟨⟨rfl,.inl ⟨7,rfl,?_⟩⟩,trivial⟩;have e:(if 0>n then 0 else n)=max n 0:=by omega
 refine zar ?_;rw [show (Sch.new n).had=List.replicate (max n 0).toNat 0 from rfl,zy73,<- e];rfl
theorem yws (c:Config):zan Tryz.prog 26 [c.hv] zad (.tup [xem (yii c).1 0 1 2 3 4 5,i64 (yii c).2]) (lk .free (zzg (yii c).1 0 1 2 3 4 5 [])):=by
 refine zap mixed Tryz.func26 zz4 [] (fun _=>.inl rfl) ?_;(conv=>whnf)
 (refine cP ?_;refine dL (yxk c) ?_)
 by_cases c0:zju c=0
 case neg =>
  rw [yii,zy0 c0];refine zac ?_ ?_
  . simpa using c0
  (conv=>whnf);refine zao [(0,none),(1,none),(2,none),(3,none),(4,none),(5,none)] rfl rfl trivial rfl rfl ⟨⟨rfl,.inr ⟨rfl,rfl⟩⟩,⟨rfl,.inr ⟨rfl,rfl⟩⟩,⟨rfl,.inr ⟨rfl,rfl⟩⟩,⟨rfl,.inr ⟨rfl,rfl⟩⟩,⟨rfl,.inr ⟨rfl,rfl⟩⟩,⟨rfl,.inr ⟨rfl,rfl⟩⟩,trivial⟩
 case pos =>
  rw [yii,zy1 c0];refine zab ?_ ?_
  . simpa using c0
  conv=>whnf
  repeat refine sG ?_
  have hb:1<=c.streams/\c.streams<=4/\1<=c.paths/\c.paths<=2/\0<=c.first/\c.first<65536:=by
   unfold zju at c0;split at c0
   . cases c0
   . omega
  obtain ⟨b1,b2,b3,b4,b5,b6⟩:=hb
  (refine zat [(0,15)]  ?_;(conv=>whnf);refine dO (ywr c.streams zz0) ?_)
  refine zaq (z:=c.first-1) (zbu zz0 zz0) (zw ?_);refine zaq (z:=2*c.streams) (zbu zz0 zz0) (zw ?_);refine zaa (c:=0<=2*c.streams/\2*c.streams=2*c.streams/\2*c.streams*(8:Nat)<=140737488355328) ⟨by omega,rfl,by omega⟩ (zw ?_);refine zaq (z:=c.first-1) (zbu zz0 zz0) (zw ?_);refine sD ?_;have hnn:(2*c.streams).toNat=(2*c.streams).toNat:=rfl;refine ⟨{i:Nat // (i:Int)<=c.paths},fun | ⟨i,_⟩=>hs 43 [(1,.ptr 1 0),(2,.ptr 2 0),(3,i64 0),(5,.ptr 5 0),(30,i64 c.paths),(31,i64 i)] [(1,.live (.cells 24 [i64 c.streams,i64 c.part,i64 c.packet,i64 c.paths,i64 (c).turns,i64 c.waiting,i64 c.first])),(2,.live (.cells 32 ylh)),(5,.live (.cells 32 (ycf (ydi c) zee (.own 901) zee (.own 900) (.own 902) zee))),(900,yxv (List.replicate i (Paths.new c.part))),(901,zxc (Sch.new c.streams).had),(902,zxc (List.replicate (2*c.streams).toNat 0))],fun i=>c.paths.toNat-i.1,⟨0,by omega⟩,?_,?_⟩
  . exact (zaz [(1,some 1),(2,some 2),(5,some 5),(900,none),(901,some 15),(902,some 24)] (by repeat' (first | exact z0 | refine z1 ?_ | refine ⟨?_,?_⟩ | ((exact zar (by rw [zy73];rfl))) | exact z2)))
  rintro ⟨i,k1⟩;(conv=>whnf);by_cases hi:(i:Int)<c.paths
  case pos =>
   refine sT ?_
   (refine cL ?_;refine dL (Paths.zqh c.part) ?_)
   refine zaa (c:=(((List.replicate i (Paths.new c.part)).map Path.row).length+1)*56<=140737488355328) zz3 (zw ?_);refine sD ?_;refine sF ?_;exact ⟨⟨i+1,by omega⟩,(zaz [(1,some 1),(2,some 2),(5,some 5),(900,some 39),(901,some 901),(902,some 902)] zz64),by dsimp only;omega⟩
  case neg =>
   refine sN ?_;have hin:c.paths.toNat=i:=by omega
   refine zao [(0,none),(1,some 901),(2,none),(3,some 900),(4,some 902),(5,none)] rfl rfl trivial rfl rfl ⟨⟨rfl,.inr ⟨rfl,rfl⟩⟩,⟨rfl,.inl ⟨901,rfl,rfl⟩⟩,⟨rfl,.inr ⟨rfl,rfl⟩⟩,⟨rfl,.inl ⟨900,rfl,?_⟩⟩,⟨rfl,.inl ⟨902,rfl,rfl⟩⟩,⟨rfl,.inr ⟨rfl,rfl⟩⟩,trivial⟩;exact zar (by rw [ydi,hin])
theorem zqh (c:Config):zan Tryz.prog 26 [c.hv] zad (.tup [(yii c).1.hv,i64 (yii c).2]) zad:=by
 refine zcn Tryz.func26 (yws c) ?_;generalize yii c=d;(conv=>whnf)
 rfl
end Snd
namespace Snd
open Ser
theorem zxd {g:FuncId} {c1:List PV} {p:zak->Bool} (hg:∀ m:zak,zan Tryz.prog g [m.hv,.rp c1] zad (zbj (p m)) zad) (q:List zak) (hb:q.length<2 ^ 62) :
 zan Tryz.prog 158 [.p (.sl 10 (q.map zak.row)),.clo g [.rp c1]] zad (i64 (zch p 0 q)) zad:=by
 refine zal mixed Tryz.func158 zz4 ?_;(conv=>whnf);refine ⟨{k:Nat // k<=q.length/\zch p k (q.drop k)=zch p 0 q},fun | ⟨k,_⟩=>hs 19 [(0,.p (.sl 10 (q.map zak.row))),(1,.clo g [.rp c1]),(7,i64 (q.map zak.row).length),(8,i64 k)] [],fun k=>q.length-k.1,⟨0,by simp⟩,?_,?_⟩
 . exact (zbi [])
 . rintro ⟨k,hk,hi⟩
   exact yy5
theorem ypf {g:FuncId} {c1:List PV} {p:zak->Bool} (hg:∀ m:zak,zan Tryz.prog g [m.hv,.rp c1] zad (zbj (p m)) zad) (q:List zak) (hb:q.length<2 ^ 62) :
 zan Tryz.prog 124 [.p (.sl 10 (q.map zak.row)),.clo g [.rp c1]] zad (zbj (q.any p)) zad:=by
 refine zal mixed Tryz.func124 zz4 ?_;(conv=>whnf)
 (refine cL ?_;refine dL (zxd hg q hb) ?_)
 rw [ybg q 0]
theorem ydt {g:FuncId} {c1:List PV} {p:zbo->Bool} (hg:∀ m:zbo,zan Tryz.prog g [m.hv,.rp c1] zad (zbj (p m)) zad) (q:List zbo) (hb:q.length<2 ^ 62) :
 zan Tryz.prog 159 [.p (.sl 20 (q.map zbo.row)),.clo g [.rp c1]] zad (i64 (zch p 0 q)) zad:=by
 refine zal mixed Tryz.func159 zz4 ?_;(conv=>whnf);refine ⟨{k:Nat // k<=q.length/\zch p k (q.drop k)=zch p 0 q},fun | ⟨k,_⟩=>hs 19 [(0,.p (.sl 20 (q.map zbo.row))),(1,.clo g [.rp c1]),(7,i64 (q.map zbo.row).length),(8,i64 k)] [],fun k=>q.length-k.1,⟨0,by simp⟩,?_,?_⟩
 . exact (zbi [])
 . rintro ⟨k,hk,hi⟩
   exact yy5
theorem yya {g:FuncId} {c1:List PV} {p:zbo->Bool} (hg:∀ m:zbo,zan Tryz.prog g [m.hv,.rp c1] zad (zbj (p m)) zad) (q:List zbo) (hb:q.length<2 ^ 62) :
 zan Tryz.prog 126 [.p (.sl 20 (q.map zbo.row)),.clo g [.rp c1]] zad (zbj (q.any p)) zad:=by
 refine zal mixed Tryz.func126 zz4 ?_;(conv=>whnf)
 (refine cL ?_;refine dL (ydt hg q hb) ?_)
 rw [ybg q 0]
theorem yxd (id:Int) (m:zak):zan Tryz.prog 125 [m.hv,.rp [pi id]] zad (zbj (decide (m.id=id))) zad:=by
 refine zal mixed Tryz.func125 zz4 ?_;(conv=>whnf)
 try rfl
theorem yxe (id:Int) (x:zbo):zan Tryz.prog 127 [x.hv,.rp [pi id]] zad (zbj (decide (x.id=id)&&decide (x.state≠2))) zad:=by
 refine zal mixed Tryz.func127 zz4 ?_;(conv=>whnf)
 (repeat' (first | (refine zce ?_;conv=>whnf) | (refine zaa ?_ ?_;(first | kernel_rfl | decide);conv=>whnf) | (refine zaw ?_ ?_;kernel_rfl;conv=>whnf) | (refine zhs.go ?_;conv=>whnf) | (refine zaf (fun h=>?_) (fun h=>?_)<;>conv=>whnf)))
 all_goals try simp only [zy44,zy47,zy15,zy5,zy43,zy28] at *
 . show zbj _=zbj _
   refine congrArg zbj ?_;rw [zy110];simp [*]
 . show zbj _=zbj _
   refine congrArg zbj ?_;rw [zy110];simp [*]
theorem ybi {α β:Type} (f:Nat->α->β) (A:List α) (p:α) (B:List β):(A++[p]).mapIdx f++B=A.mapIdx f++f A.length p::B:=by
 rw [zy101];simp
theorem zfe (s:zah)  (hs:Fit s):zan Tryz.prog 82 [.ptr 1000 0] (lk .free (pH0 s )) (.tup []) (lk .free (pD0 (settle s) )):=by
 obtain ⟨h1,h2,h3,h4,h5,h6,h7⟩:=hs;refine zap mixed Tryz.func82 zz4 [1000,1001,1002,1003,1004,1005,1006] zbq ?_;(conv=>whnf);refine ⟨{x:List Int×List Int // s.fates=x.1++x.2},fun | ⟨(A,B),_⟩=>hsP [1000,1001,1002,1003,1004,1005,1006] 41 [(0,.ptr 1000 0),(7,.own 1006),(8,i64 s.fates.length),(9,i64 A.length)] (pH0 {s with fates:=A.mapIdx (settled s)++B} ),fun x=>x.1.2.length,⟨([],s.fates),rfl⟩,?_,?_⟩
 . exact (zcb (pK7 []) zz2)
 rintro ⟨⟨A,B⟩,h⟩;dsimp only at h;(conv=>whnf);cases B with
 | cons f B =>
  have hz:=zbe h;refine sT ?_;refine sOm ?_;refine zaj (f:=fun n:Int=>[pi n]) (a:=A.mapIdx (settled s)) (b:=B) (s:=f) rfl zz5 (zw ?_);by_cases c1:f=1
  case neg =>
   rw [show (f==1)=false from zy5.2 c1];(conv=>whnf);refine sF ?_;exact ⟨⟨(A++[f],B),zag h⟩,(zcb (pK7 []) (by repeat' (first | exact z0 | refine z1 ?_ | refine ⟨?_,?_⟩ | ((exact zar (by rw [ybi,settled,zy0 (fun h=>c1 h.1)]))) | exact z2))),by simp⟩
  case pos =>
   rw [show (f==1)=true from zy15.2 c1];refine zac rfl (zw ?_)
   (refine cL ?_;refine dL (ypf (fun m=>yxd (A.length:Int) m) s.queue zz0) ?_)
   cases c2:(s.queue.any fun m=>decide (m.id=(A.length:Int))) with
   | true =>
    conv=>whnf
    try (refine zab rfl ?_;conv=>whnf)
    (conv=>whnf);refine sF ?_;exact ⟨⟨(A++[f],B),zag h⟩,(zcb (pK7 []) (by repeat' (first | exact z0 | refine z1 ?_ | refine ⟨?_,?_⟩ | ((exact zar (by rw [ybi,settled,zy0 (fun h=>absurd (c2.symm.trans h.2.1) (by decide))]))) | exact z2))),by simp⟩
   | false =>
    conv=>whnf
    try (refine zac rfl ?_;conv=>whnf)
    repeat refine sG ?_
    (refine cL ?_;refine dL (yya (fun x=>yxe (A.length:Int) x) s.out (by have:=h3.len;omega)) ?_)
    cases c3:(s.out.any fun x=>decide (x.id=(A.length:Int))&&decide (x.state≠2)) with
    | true =>
     (conv=>whnf);refine sF ?_;exact ⟨⟨(A++[f],B),zag h⟩,(zcb (pK7 []) (by repeat' (first | exact z0 | refine z1 ?_ | refine ⟨?_,?_⟩ | ((exact zar (by rw [ybi,settled,zy0 (fun h=>absurd (c3.symm.trans h.2.2) (by decide))]))) | exact z2))),by simp⟩
    | false =>
     (conv=>whnf);refine sOm ?_;refine zaj (f:=fun n:Int=>[pi n]) (a:=A.mapIdx (settled s)) (b:=B) (s:=f) rfl zz5 (zw ?_);refine sD ?_;refine sF ?_;exact ⟨⟨(A++[f],B),zag h⟩,(zcb (pK7 []) (by repeat' (first | exact z0 | refine z1 ?_ | refine ⟨?_,?_⟩ | ((rw [ybi,settled,zy1 ⟨c1,c2,c3⟩];refine Eq.symm (zeg (f:=fun n:Int=>[pi n]) (a:=A.mapIdx (settled s)) (b:=B) ?_ ?_);all_goals first | rfl | (simp;done))) | exact z2))),by simp⟩
 | nil =>
  have hz:=zbn h;rw [zy4] at h;refine sN ?_
  (exact zcx (pK7 [(0,some 1001),(1,some 1002),(2,some 1003),(3,some 1004),(4,some 1005),(5,some 1006)]) (by repeat' (first | exact z0 | refine z1 ?_ | refine ⟨?_,?_⟩ | ((exact zar (by rw [settle,h,zy4]))) | exact z2)))
end Snd
namespace Sco
open Ser
theorem yrh (l:List zbo) (cum:Int) (c:Chunk) (paths:Int) (hl:zeu l) (hr:yik l cum paths) (hsp:c.zas.length<2 ^ 60) :
 zan Tryz.prog 75 [zdy l,i64 cum,c.hv,i64 paths] zad (.tup [.own 0,i64 (zix l cum c paths).2.1,.own 1,.own 2]) (lk .free [(0,ziy (zix l cum c paths).1),(1,ybh (zix l cum c paths).2.2.1),(2,ybh (zix l cum c paths).2.2.2)]):=by
 have hl1:=hl.len;have hp0:=hr.p0;have hp1:=hr.p1;have hc0:=hr.c0;have hc1:=hr.c1;refine zap mixed Tryz.func75 zz4 [] (fun _=>.inl rfl) ?_;have hn:=ziv (a:=cum) (t:=c.tag) zz0 zz0;rw [zix];generalize hN:zdd cum c.tag=n at hn ⊢;(conv=>whnf);refine zaa (c:=0<=(if 0>paths then 0 else paths)/\(if 0>paths then 0 else paths)=(if 0>paths then 0 else paths)/\(if 0>paths then 0 else paths)*8<=140737488355328) zz0 ?_;(conv=>whnf)
 (refine cL ?_;refine dLm (zkk _ _) ?_)
 rw [hN];(conv=>whnf);refine zhs.meet PUnit (fun _=>hs 165 [(0,zdy l),(1,i64 cum),(6,.ptr 6 0),(8,zee),(10,.own 900),(11,zee),(12,i64 n),(13,i64 (cum+l.length))] [(6,.live (.cells 61 c.cells)),(900,ybh (List.replicate paths.toNat 0))]) ?_ ?_
 . have e21:zai.live (.row 3 1 (List.replicate (if 0>paths then 0 else paths).toNat [pi 0]))=ybh (List.replicate paths.toNat 0):=by
    rw [zy0 (by omega),ybh,zy73]
   (conv=>whnf);refine zaf (fun c1=>?_) (fun c1=>?_)
   . have c1:0<l.length:=by simpa using c1
     have e1:=hr.zjt (l.length-1) (l[l.length-1]) (zy3 zz0);(conv=>whnf);refine sF ?_;refine zbz (l.length-1) zz3 zz0 ?_;(conv=>whnf);exact ⟨⟨⟩,(zaz [(6,some 6),(900,some 21)] zz76)⟩
   . have c1:l.length=0:=by simpa using c1
     (conv=>whnf);exact ⟨⟨⟩,(zaz [(6,some 6),(900,some 21)] zz76)⟩
 rintro ⟨⟩;(conv=>whnf);by_cases k1:n<cum\/n>cum+l.length
 . rw [zy1 k1]
   by_cases k2:n<cum
   . refine sT ?_
     exact yy79
   . refine sN ?_
     refine sT ?_;exact yy79
 . rw [zy0 k1]
   refine sN ?_;refine sN ?_
   (refine zat [(0,50)]  ?_;(conv=>whnf);refine dO (zdt l hl) ?_)
   refine ⟨{x:List zbo×List zbo×List zbo×List Int×Int // SI l c n paths.toNat cum x},fun | ⟨(a,b,out,zhf,high),_⟩=>hs 165 [(6,.ptr 6 0),(8,.own 901),(10,.own 900),(11,zee),(12,i64 n),(14,i64 high),(50,.own 902),(51,i64 l.length),(52,i64 a.length)] [(6,.live (.cells 61 c.cells)),(900,ybh zhf),(901,ziy out),(902,ziy l)],fun x=>x.1.2.1.length,⟨([],l,[],List.replicate paths.toNat 0,0),rfl,rfl,rfl,rfl,zy75 _,by dsimp only;simp;omega⟩,?_,?_⟩
   . exact (zbi [(6,some 6),(900,some 900),(901,none),(902,some 50)])
   rintro ⟨⟨a,b,out,zhf,high⟩,hi⟩;have h:=hi.split;dsimp only at h;cases b with
   | nil =>
    have hz:=zbn h;obtain ⟨h1,h2,h3,h4,h5,h6⟩:=hi;dsimp only at h1 h2 h3 h4 h5 h6;rw [zy4] at h1;subst h1;rw [<- h3,<- h4,<- h2];have hlen:out.length<=l.length:=by rw [h2,left,zy2];exact zy30 _ _
    (conv=>whnf);refine sN ?_;refine ⟨{x:List zbo×List zbo // out=x.1++x.2},fun | ⟨(a,b),_⟩=>hs 165 [(8,.own 901),(10,.own 900),(11,.own 903),(12,i64 n),(14,i64 high),(118,i64 out.length),(119,i64 a.length)] [(900,ybh zhf),(901,ziy (a.map (age high)++b)),(903,ybh (lost high a))],fun x=>x.1.2.length,⟨([],out),rfl⟩,?_,?_⟩
    . exact (zbi [(900,some 900),(901,some 901),(903,none)])
    rintro ⟨⟨a,b⟩,h⟩;dsimp only at h;cases b with
    | nil =>
     have hz:=zbn h;rw [zy4] at h;subst h;(conv=>whnf);refine sN ?_;exact zao [(0,some 901),(1,some 900),(2,some 903)] rfl rfl trivial rfl rfl ⟨⟨rfl,.inl ⟨901,rfl,by exact zar zz151⟩⟩,⟨rfl,.inl ⟨900,rfl,rfl⟩⟩,⟨rfl,.inl ⟨903,rfl,rfl⟩⟩,trivial⟩
    | cons s b =>
     have hz:=zbe h;have ea:(a++[s]).map (age high)++b=a.map (age high)++age high s::b:=by simp
     have el:lost high (a++[s])=lost high a++lost high [s]:=by simp [lost]
     have hln:(lost high a).length<=a.length:=by rw [lost,zy2];exact zy30 _ _
     (conv=>whnf);refine sT ?_
     (try refine sG ?_)
     refine sO ?_;refine zaj (a:=a.map (age high)) (b:=b) (s:=s) rfl zz5 (zw ?_);by_cases c1:s.state=1
     . refine sN ?_
       refine zaj (a:=a.map (age high)) (b:=b) (s:=s) rfl zz5 (zw ?_);by_cases c2:s.number<high
       . refine sN ?_
         refine zaj (a:=a.map (age high)) (b:=b) (s:=s) rfl zz5 (zw ?_);refine sR ?_;refine zaj (a:=a.map (age high)) (b:=b) (s:=s) rfl zz5 (zw ?_);refine zcg zz5 zz5 (zw ?_);by_cases c3:W (s.missed+1)>=3
         . have e1:age high s={s with missed:=W (s.missed+1),state:=3}:=by rw [age,zy1 ⟨c1,c2⟩,zy1 c3]
           have e2:lost high [s]=[s.number]:=by simp [lost,c1,c2,c3]
           refine sT ?_;refine zcg zz5 zz5 (zw ?_);refine zcg zz5 zz5 (zw ?_);refine zaa (c:=(((lost high a).map fun n=>[pi n]).length+1)*8<=140737488355328) zz6 (zw ?_);refine sF ?_;exact ⟨⟨(a++[s],b),zag h⟩,(zaz [(900,some 900),(901,some 901),(903,some 159)] (by repeat' (first | exact z0 | refine z1 ?_ | refine ⟨?_,?_⟩ | ((rw [ea];exact (xal (by simp) (by rw [e1];rfl)).symm)) | ((rw [el,e2];exact (zej (f:=fun n=>[pi n]) rfl).symm)) | exact z2))),by simp⟩
         . have e1:age high s={s with missed:=W (s.missed+1)}:=by rw [age,zy1 ⟨c1,c2⟩,zy0 c3]
           have e2:lost high [s]=[]:=by simp [lost,c1,c2,c3]
           refine sN ?_;refine sF ?_;exact ⟨⟨(a++[s],b),zag h⟩,(zaz [(900,some 900),(901,some 901),(903,some 903)] (by repeat' (first | exact z0 | refine z1 ?_ | refine ⟨?_,?_⟩ | ((rw [ea];exact (zeg (by simp) (by rw [e1];rfl)).symm)) | ((rw [el,e2,zy4];rfl)) | exact z2))),by simp⟩
       . have e1:age high s=s:=by rw [age,zy0 fun h=>c2 h.2]
         have e2:lost high [s]=[]:=by simp [lost,c2]
         exact yy134
     . have e1:age high s=s:=by rw [age,zy0 fun h=>c1 h.1]
       have e2:lost high [s]=[]:=by simp [lost,c1]
       exact yy134
   | cons s b =>
    have hz:=zbe h;obtain ⟨hnum,hpa0,hpa1⟩:=hr.at h;have hnx:=hi.next hnum hc0;have hhi:=hi.h1;have hh0:=hi.h0;have hcl:=hi.zhf;have hol:out.length<=a.length:=by have:=hi.out;dsimp only at this;rw [this,left,zy2];exact zy30 _ _
    dsimp only at hhi hh0 hcl;have hcl:zhf.length=paths.toNat:=by rw [hcl,zmx]
    have hby:=hl.bytes;rw [h,zhq,zgi] at hby;(conv=>whnf);refine sT ?_;refine sO ?_;refine zaj h rfl (zw ?_);by_cases g:s.number>n
    . refine sT ?_
      refine sR ?_
      (refine cL ?_;refine dL (yoj c.zas _ zz0) ?_)
      by_cases hh:has c.zas (W (s.number-n))=true
      . have hk:here c n s=true:=by rw [here,hh];simp
        refine sN ?_;have eA:zai.live (.row 3 1 ((zhf.map fun n=>[pi n]).set s.path.toNat [pi (W (zhf[s.path.toNat]'zz0+((s.chunk.data.map zcp).length:Int)))]))=ybh (zzy zhf s.path s.chunk.data.length):=by
         rw [zzy,ybh,zy61,zy3 (by omega),zy116,zy2]
        by_cases q:s.state=1\/s.state=3
        . have hcm:comes c n s=true:=by rw [comes,hk,zy96];rcases q with q | q<;>rw [q]<;>rfl
          rw [zy1 g,zob,zy1 hcm,zof,zy1 hcm,zbp,zy1 hcm] at hnx;have emx:(if s.number>high then s.number else high)=s.number:=by split<;>omega
          by_cases q1:s.state=1
          . refine sT ?_
            (repeat' (first | refine sT ?_ | refine sN ?_))
            refine sO ?_;refine zbz s.path.toNat zz0 zz0 (zw ?_);refine sR ?_;refine sO ?_;refine zbz s.path.toNat zz0 zz0 (zw ?_);refine sD ?_;exact yy41
          . refine sN ?_
            refine sT ?_
            (repeat' (first | refine sT ?_ | refine sN ?_))
            refine sO ?_;refine zbz s.path.toNat zz0 zz0 (zw ?_);refine sR ?_;refine sO ?_;refine zbz s.path.toNat zz0 zz0 (zw ?_);refine sD ?_;exact yy41
        . have hcm:comes c n s=false:=by
           rw [comes,hk,zy96];simp only [not_or] at q;simp [q.1,q.2]
          rw [zy1 g,zob,zy0 (by rw [hcm];decide),zof,zy0 zz94,zbp,zy0 zz94] at hnx;have q1:s.state≠1:=fun h=>q (.inl h)
          have q2:s.state≠3:=fun h=>q (.inr h)
          refine sN ?_;refine sN ?_;exact yy41
      . have hk:here c n s=false:=by rw [here];simp [hh];omega
        have hcm:comes c n s=false:=by rw [comes,hk];rfl
        rw [zy1 g,zob,zy0 (by rw [hcm];decide),zof,zy0 zz94,zbp,zy0 zz94] at hnx;refine zac (by simpa using hh) (zw ?_);refine zaa (c:=((out.map zbo.row).length+1)*200<=140737488355328) om (zw ?_);refine sF ?_;exact ⟨⟨_,hnx⟩,(zaz [(6,some 6),(900,some 900),(901,some 73),(902,some 902)] zz80),by simp⟩
    . have hk:here c n s=true:=by rw [here];simp;left;omega
      refine sN ?_;have eA:zai.live (.row 3 1 ((zhf.map fun n=>[pi n]).set s.path.toNat [pi (W (zhf[s.path.toNat]'zz0+((s.chunk.data.map zcp).length:Int)))]))=ybh (zzy zhf s.path s.chunk.data.length):=by
       rw [zzy,ybh,zy61,zy3 (by omega),zy116,zy2]
      by_cases q:s.state=1\/s.state=3
      . have hcm:comes c n s=true:=by rw [comes,hk,zy96];rcases q with q | q<;>rw [q]<;>rfl
        rw [zy0 g,zob,zy1 hcm,zof,zy1 hcm,zy4] at hnx;have emx:(if s.number>high then s.number else high)=s.number:=by split<;>omega
        by_cases q1:s.state=1
        . refine sT ?_
          exact yy70
        . refine sN ?_
          refine sT ?_;exact yy70
      . have hcm:comes c n s=false:=by
         rw [comes,hk,zy96];simp only [not_or] at q;simp [q.1,q.2]
        rw [zy0 g,zob,zy0 (by rw [hcm];decide),zof,zy0 zz94,zy4] at hnx;have q1:s.state≠1:=fun h=>q (.inl h)
        have q2:s.state≠3:=fun h=>q (.inr h)
        refine sN ?_;refine sN ?_;refine sN ?_;refine sF ?_;exact ⟨⟨_,hnx⟩,(zaz ((6,some 6)::(pJ3 [])) zz51),by simp⟩
end Sco
namespace Snd
open Ser
def zjz (ps:List Path) (part:Int) (moved:Bool) (A:List Int):List Path:=ps.mapIdx fun i p=>if A[i]?.getD 0>0 then Paths.zjw p (A[i]?.getD 0) part moved else p
theorem yah {ps:List Path} {part:Int} {moved:Bool} {A:List Int}:(zjz ps part moved A)[A.length]?=ps[A.length]?:=by
 rw [zjz,zy102,zy50 (zy23 _)];cases ps[A.length]?<;>simp
theorem zxy {ps:List Path} {part:Int} {moved:Bool} {A:List Int} {n:Int} {p:Path} (hp:ps[A.length]?=some p) :
 zjz ps part moved (A++[n])=(zjz ps part moved A).set A.length (if n>0 then Paths.zjw p n part moved else p):=by
 apply zy83;intro i;rw [zy131,zjz,zjz,zy102,zy102,zy108];have hl:=(zy9.1 hp).1;by_cases hi:A.length=i
 . subst hi
   rw [zy1 rfl,zy1 hl,hp];simp
 . rw [zy0 hi]
   rcases zy79 i A.length with h | h
   . rw [zy46 h]
   . rw [zy50 (l:=A++[n]) (by simp;omega),zy50 (l:=A) h]
theorem zsz {l:List zbo} (h:Sco.zeu l) (cum:Int) (c:Chunk) (paths:Int):Sco.zeu (Sco.zix l cum c paths).1:=by
 have hf:∀ (p:zbo->Bool) (l:List zbo),Sco.total (l.filter p)<=Sco.total l:=by
  intro p l
  induction l with
  | nil=>exact zy23 _
  | cons x l ih =>
   rw [zy49,Sco.zgi];split
   . rw [Sco.zgi];omega
   . omega
 have hm:∀ (f:zbo->zbo) (l:List zbo),(∀ x,(f x).chunk=x.chunk)->Sco.total (l.map f)=Sco.total l:=by
  intro f l hf;simp only [Sco.total,zy113];congr 1;exact zy93 fun s _=>by simp [hf]
 unfold Sco.zix;split
 . exact h
 . refine ⟨?_,?_⟩
   . have:=zy30 (fun s:zbo=>decide (s.number>zdd cum c.tag)) l
     have:=h.len;simp only [Sco.left,zy2];omega
   . dsimp only
     rw [hm _ _ (fun x=>by unfold Sco.age;(repeat' split)<;>rfl),Sco.left,hm _ _ (fun x=>by unfold Sco.zbp;split<;>rfl)];exact zy143 (hf _ _) h.bytes
def zpl (s:zah) (c:Chunk) (k:List zbo×Int×List Int×List Int):zah:=zck {s with out:=k.1,cum:=k.2.1,room:=c.room,paths:=zjz s.paths s.config.part (decide (k.2.1>s.cum)) k.2.2.1}
def zln (part:Int) (t:zah) (lost:List Int):zah:=match lost.getLast? with
 | none=>t
 | some z=>if z>t.recover then {t with paths:=setAt t.paths (choose t) fun p=>Paths.zpk p part,recover:=W (t.next-1)} else t
def zgv (moved:Bool) (u:zah):zah:=if moved=true/\(Sco.zdx u.out u.cum).1>u.cum then {u with forward:=true} else u
theorem ztu (s:zah) (c:Chunk):heard s c=settle (zgv (decide ((Sco.zix s.out s.cum c s.paths.length).2.1>s.cum)) (zln s.config.part (zpl s c (Sco.zix s.out s.cum c s.paths.length)) (Sco.zix s.out s.cum c s.paths.length).2.2.2)):=rfl
def upS (t:zah) (part:Int) (w:Path):zah:={t with paths:=t.paths.set (choose t) (Paths.zpk w part),recover:=W (t.next-1)}
theorem Fit.fwd {s:zah} (h:Fit s):Fit {s with forward:=true}:=⟨h.queue,h.had,h.out,h.paths,h.mids,h.fates,h.data⟩
theorem Fit.up {s:zah} (h:Fit s) {part:Int} {w:Path}:Fit (upS s part w):=⟨h.queue,h.had,h.out,by show (s.paths.set _ _).length<_;rw [zy26];exact h.paths,h.mids,h.fates,h.data⟩
theorem yqo (s:zah) (c:Chunk) (hs:Fit s) (hr:Sco.yik s.out s.cum s.paths.length) (hsp:c.zas.length<2 ^ 60) :
 zan Tryz.prog 34 [s.hv,c.hv] zad (xem (yjo s c) 0 1 2 3 4 5) (lk .free (zzg (yjo s c) 0 1 2 3 4 5 [])):=by
 have hs':=hs;obtain ⟨h1,h2,h3,h4,h5,h6,h7⟩:=hs;generalize hT:yjo s c=T;refine zap mixed Tryz.func34 zz4 [] (fun _=>.inl rfl) ?_;(conv=>whnf)
 (refine zat [(0,20),(1,21),(2,22),(3,23),(4,24),(5,25)]  ?_;(conv=>whnf);refine dO (zdt s hs') ?_)
 by_cases c1:c.kind=2
 case neg =>
  rw [yjo,zy1 c1] at hT;subst hT;refine zac ?_ ?_
  . simpa using c1
  exact yy56
 case pos =>
  rw [yjo,zy0 (fun h=>h c1)] at hT;refine zab ?_ ?_
  . simpa using c1
  conv=>whnf
  repeat refine sG ?_
  have hk:=Sco.yrh s.out s.cum c ((s.paths.map Path.row).length:Nat) h3 (by rw [zy2];exact hr) hsp;by_cases k1:zdd s.cum c.tag<s.cum\/zdd s.cum c.tag>s.cum+s.out.length
  case pos =>
   rw [zy1 k1] at hT;subst hT;rw [Sco.zix,zy1 k1] at hk
   (refine zat [(0,31),(1,32),(2,33)]  ?_;(conv=>whnf);refine dO hk ?_)
   (refine cL ?_;refine dL (zkk s.cum c.tag) ?_)
   refine zac ?_ ?_
   . have:zdd s.cum c.tag≠s.cum:=by omega
     simpa using this
   exact yy56
  case neg =>
   rw [zy0 k1,ztu] at hT;have hks:=zsz h3 s.cum c s.paths.length;have hlo:(Sco.zix s.out s.cum c s.paths.length).2.2.2.length<=s.out.length:=by
    rw [Sco.zix,zy0 k1];dsimp only;rw [Sco.lost,zy2];refine zy94 (zy30 _ _) ?_;rw [Sco.left,zy2];exact zy30 _ _
   have hK:(Sco.zix s.out s.cum c ((s.paths.map Path.row).length:Nat)).2.1=zdd s.cum c.tag:=by rw [Sco.zix,zy0 k1]
   rw [hK] at hk
   (refine zat [(0,31),(1,32),(2,33)]  ?_;(conv=>whnf);refine dO hk ?_)
   (refine cL ?_;refine dL (zkk s.cum c.tag) ?_)
   rw [show (zdd s.cum c.tag != zdd s.cum c.tag)=false from bne_self_eq_false _];(conv=>whnf);refine sD ?_;have hcl:(Sco.zix s.out s.cum c ((s.paths.map Path.row).length:Nat)).2.2.1.length=s.paths.length:=by
    rw [Sco.zix,zy0 k1];simp only [Sco.zmx];rw [zy2];rfl
   have hid:s.paths.mapIdx (fun _ p=>p)=s.paths:=by apply List.ext_getElem<;>simp
   have epl:(s.paths.map Path.row).length=s.paths.length:=zy2 _;rw [<- epl] at hT hks hlo;generalize Sco.zix s.out s.cum c ((s.paths.map Path.row).length:Nat)=K at hcl hK hk hT hks hlo ⊢;rw [hK] at hT;refine ⟨{x:List Int×List Int // K.2.2.1=x.1++x.2},fun | ⟨(A,B),_⟩=>hs 133 [(2,.ptr 2 0),(4,.ptr 4 0),(5,.ptr 5 0),(9,.own 907),(10,zbj (decide (zdd s.cum c.tag>s.cum))),(55,.own 906),(56,i64 s.paths.length),(57,i64 A.length)] ((2,.live (.cells 32 (ycf s (Sch.qs s.queue) (ints s.sched.had) (Sco.zdy s.out) (zov s.paths) (ints s.mids) (ints s.fates))))::(4,.live (.cells 32 ylh))::(5,.live (.cells 32 (ycf {s with cum:=zdd s.cum c.tag,room:=c.room} (.own 900) (.own 901) (.own 902) (.own 903) (.own 904) (.own 905))))::zzg {s with out:=K.1,paths:=zjz s.paths s.config.part (decide (zdd s.cum c.tag>s.cum)) A} 900 901 902 903 904 905 [(906,zxc K.2.2.1),(907,zxc K.2.2.2)]),fun x=>x.1.2.length,⟨([],K.2.2.1),rfl⟩,?_,?_⟩
   . exact (zaz [(2,some 2),(4,some 4),(5,some 5),(900,some 20),(901,some 21),(902,some 31),(903,some 23),(904,some 24),(905,some 25),(906,some 32),(907,some 33)] (by repeat' (first | exact z0 | refine z1 ?_ | refine ⟨?_,?_⟩ | ((exact zbk (by rw [zy2];omega))) | ((exact zar (by simp [zjz,hid]))) | exact z2)))
   rintro ⟨⟨A,B⟩,h⟩;dsimp only at h;(conv=>whnf);cases B with
   | cons n B =>
    have hz:=zbe h;obtain ⟨p,hp⟩:∃ p,s.paths[A.length]?=some p:=⟨_,zy3 zz0⟩
    have hpl:A.length<(zjz s.paths s.config.part (decide (zdd s.cum c.tag>s.cum)) A).length:=by rw [zjz,zy108];omega
    refine sT ?_;refine sOm ?_;refine zaj (f:=fun n:Int=>[pi n]) h rfl (zw ?_);by_cases d1:n>0
    case pos =>
     rw [show decide (n>0)=true from zy10 d1];(conv=>whnf);refine zaa ⟨by omega,by rw [zy2];exact_mod_cast hpl⟩ (zw ?_);refine zam (yah.trans hp) rfl (zw ?_)
     (refine cL ?_;refine dL (Paths.yqh p n s.config.part (decide (zdd s.cum c.tag>s.cum))) ?_)
     refine zaa ⟨by omega,by rw [zy2];exact_mod_cast hpl⟩ (zw ?_);refine zam (yah.trans hp) rfl (zw ?_);refine sD ?_;refine sF ?_;exact ⟨⟨(A++[n],B),zag h⟩,(zaz ((2,some 2)::((4,some 4)::(5,some 5)::(pJ8 []))) (by repeat' (first | exact z0 | refine z1 ?_ | refine ⟨?_,?_⟩ | ((exact (zfc rfl).trans (zar (by rw [zxy hp,zy1 d1];rfl)))) | exact z2))),by simp⟩
    case neg =>
     rw [show decide (n>0)=false from zy11 d1];(conv=>whnf);refine sF ?_;exact ⟨⟨(A++[n],B),zag h⟩,(zaz ((2,some 2)::((4,some 4)::(5,some 5)::(pJ8 []))) (by repeat' (first | exact z0 | refine z1 ?_ | refine ⟨?_,?_⟩ | ((exact zar (by rw [zxy hp,zy0 d1,zkz (yah.trans hp)]))) | exact z2))),by simp⟩
   | nil =>
    have hz:=zbn h;rw [zy4] at h;refine sN ?_;have hcp:(zjz s.paths s.config.part (decide (zdd s.cum c.tag>s.cum)) A).length=s.paths.length:=by rw [zjz,zy108]
    (refine zae [] [(1000,5),(1001,900),(1002,901),(1003,902),(1004,903),(1005,904),(1006,905)] [(0,930),(1,931),(2,932),(3,933),(4,934),(5,935)] ?_;(conv=>whnf);refine dG (yck {s with cum:=zdd s.cum c.tag,room:=c.room,out:=K.1,paths:=zjz s.paths s.config.part (decide (zdd s.cum c.tag>s.cum)) A} hks zz81) ?_)
    rw [show zpl s c K=zck {s with cum:=zdd s.cum c.tag,room:=c.room,out:=K.1,paths:=zjz s.paths s.config.part (decide (zdd s.cum c.tag>s.cum)) A} by rw [zpl,hK,h]] at hT;have hfl:(zck {s with cum:=zdd s.cum c.tag,room:=c.room,out:=K.1,paths:=zjz s.paths s.config.part (decide (zdd s.cum c.tag>s.cum)) A}).paths.length=s.paths.length:=by
     show (List.mapIdx _ _).length=_;rw [zy108];exact hcp
    have hfo:(zck {s with cum:=zdd s.cum c.tag,room:=c.room,out:=K.1,paths:=zjz s.paths s.config.part (decide (zdd s.cum c.tag>s.cum)) A}).out=K.1:=rfl;have hft:Fit (zck {s with cum:=zdd s.cum c.tag,room:=c.room,out:=K.1,paths:=zjz s.paths s.config.part (decide (zdd s.cum c.tag>s.cum)) A}):=⟨h1,h2,hks,by omega,h5,h6,h7⟩
    generalize zck {s with cum:=zdd s.cum c.tag,room:=c.room,out:=K.1,paths:=zjz s.paths s.config.part (decide (zdd s.cum c.tag>s.cum)) A}=t at hT hfl hfo hft ⊢;generalize decide (zdd s.cum c.tag>s.cum)=mv at hT ⊢;have hpl:=hr.p0;obtain ⟨hch,hch2⟩:=zdm (s:=t) zz0;obtain ⟨w,hw⟩:∃ w,t.paths[choose t]?=some w:=⟨_,zy3 hch2⟩
    obtain ⟨K1,K2,K3,K4⟩:=K;dsimp only at hT hcl hK hks h hz hfo hlo ⊢;rcases zy111 K4 with rfl | ⟨L,z,rfl⟩
    case inl =>
     rw [show zln s.config.part t []=t from rfl] at hT;(conv=>whnf);refine sD ?_;exact yy3
    case inr =>
     rw [zy99] at hT ⊢;have hU:zln s.config.part t (L++[z])=if z>t.recover then upS t s.config.part w else t:=by
      unfold zln;rw [List.getLast?_concat];dsimp only;rw [upS,setAt,hw]
     rw [hU] at hT;have hll:((L++[z]).map (fun n:Int=>[pi n])).length=L.length+1:=by simp
     have hLl:L.length<2 ^ 38:=by
      have:=hlo;rw [zy99,zy8] at this;simp only [zy6,zy12] at this;have:=h3.len;omega
     rw [show decide (((List.map (fun n:Int=>[pi n]) (L++[z])).length:Int)>0)=true from zy10 (by omega)];(conv=>whnf);refine sFm ?_;refine zaa zz0 (zw ?_);refine zaj (f:=fun n:Int=>[pi n]) (a:=L) (b:=[]) (s:=z) rfl zz0 (zw ?_);refine sD ?_;by_cases e0:z>t.recover
     case neg =>
      rw [zy0 e0] at hT;rw [show decide (z>t.recover)=false from zy11 e0];(conv=>whnf)
      repeat refine sG ?_
      exact yy3
     case pos =>
      rw [zy1 e0] at hT;rw [show decide (z>t.recover)=true from zy10 e0];(conv=>whnf);have pc:=Paths.zeq t.paths zz0;rw [hch] at pc
      (refine cL ?_;refine dL pc ?_)
      refine zaa zz6 (zw ?_);refine zam hw rfl (zw ?_)
      (refine cL ?_;refine dL (Paths.zhd w s.config.part) ?_)
      refine zaa zz6 (zw ?_);refine zam hw rfl (zw ?_);refine sD ?_;refine sR ?_
      (refine zae [] [(1000,932)] [(0,960)] ?_;(conv=>whnf);refine dG (Sco.zfd t.out t.cum zz143) ?_)
      cases mv with
      | false =>
       rw [show zgv false (upS t s.config.part w)=(upS t s.config.part w) from zy0 (fun h=>absurd h.1 (by decide))] at hT;subst hT;(conv=>whnf)
       (refine zae [] [(1000,5),(1001,930),(1002,931),(1003,932),(1004,933),(1005,934),(1006,935)] [(0,980),(1,981),(2,982),(3,983),(4,984),(5,985)] ?_;(conv=>whnf);refine dG (zfe (upS t s.config.part w) ((Fit.up hft))) ?_ ⟨rfl,rfl,rfl,⟨zz1,⟨zz1,⟨zz1,⟨zz1,⟨⟨rfl,_,rfl,.inl ⟨rfl,(zfc rfl)⟩⟩,⟨zz1,⟨zz1,trivial⟩⟩⟩⟩⟩⟩⟩,⟨⟨rfl,rfl⟩,⟨⟨rfl,rfl⟩,⟨⟨rfl,rfl⟩,⟨⟨rfl,rfl⟩,⟨⟨rfl,rfl⟩,⟨⟨rfl,rfl⟩,trivial⟩⟩⟩⟩⟩⟩,rfl,rfl,rfl⟩)
       exact yy4
      | true =>
       (conv=>whnf);by_cases e1:(Sco.zdx t.out t.cum).1>t.cum
       case pos =>
        rw [show zgv true (upS t s.config.part w)={(upS t s.config.part w) with forward:=true} from zy1 ⟨rfl,e1⟩] at hT;subst hT;rw [show decide ((Sco.zdx t.out t.cum).1>t.cum)=true from zy10 e1];(conv=>whnf)
        (refine zae [] [(1000,5),(1001,930),(1002,931),(1003,932),(1004,933),(1005,934),(1006,935)] [(0,980),(1,981),(2,982),(3,983),(4,984),(5,985)] ?_;(conv=>whnf);refine dG (zfe ({(upS t s.config.part w) with forward:=true}:zah) ((Fit.fwd (Fit.up hft)))) ?_ ⟨rfl,rfl,rfl,⟨zz1,⟨zz1,⟨zz1,⟨zz1,⟨⟨rfl,_,rfl,.inl ⟨rfl,(zfc rfl)⟩⟩,⟨zz1,⟨zz1,trivial⟩⟩⟩⟩⟩⟩⟩,⟨⟨rfl,rfl⟩,⟨⟨rfl,rfl⟩,⟨⟨rfl,rfl⟩,⟨⟨rfl,rfl⟩,⟨⟨rfl,rfl⟩,⟨⟨rfl,rfl⟩,trivial⟩⟩⟩⟩⟩⟩,rfl,rfl,rfl⟩)
        exact yy4
       case neg =>
        rw [show zgv true (upS t s.config.part w)=(upS t s.config.part w) from zy0 (fun h=>e1 h.2)] at hT;subst hT;rw [show decide ((Sco.zdx t.out t.cum).1>t.cum)=false from zy11 e1];(conv=>whnf)
        (refine zae [] [(1000,5),(1001,930),(1002,931),(1003,932),(1004,933),(1005,934),(1006,935)] [(0,980),(1,981),(2,982),(3,983),(4,984),(5,985)] ?_;(conv=>whnf);refine dG (zfe (upS t s.config.part w) ((Fit.up hft))) ?_ ⟨rfl,rfl,rfl,⟨zz1,⟨zz1,⟨zz1,⟨zz1,⟨⟨rfl,_,rfl,.inl ⟨rfl,(zfc rfl)⟩⟩,⟨zz1,⟨zz1,trivial⟩⟩⟩⟩⟩⟩⟩,⟨⟨rfl,rfl⟩,⟨⟨rfl,rfl⟩,⟨⟨rfl,rfl⟩,⟨⟨rfl,rfl⟩,⟨⟨rfl,rfl⟩,⟨⟨rfl,rfl⟩,trivial⟩⟩⟩⟩⟩⟩,rfl,rfl,rfl⟩)
        exact yy4
theorem ywp (s:zah) (c:Chunk) (hs:Fit s) (hr:Sco.yik s.out s.cum s.paths.length) (hsp:c.zas.length<2 ^ 60) :
 zan Tryz.prog 34 [s.hv,c.hv] zad (yjo s c).hv zad:=by
 refine zcn Tryz.func34 (yqo s c hs hr hsp) ?_;(conv=>whnf)
 rfl
end Snd
namespace Snd
open Ser
structure QI (c:Config) (fates:List Int) (m:zak):Prop where
 id0:0<=m.id
 id1:m.id<fates.length
 fate:fates[m.id.toNat]?=some 1
 st0:0<=m.message.stream
 st1:m.message.stream<c.streams
 len1:1<=m.message.data.length
 len2:m.message.data.length<=60
 parts:0<=m.parts
 sent:m.sent=m.parts*c.part
 left:m.sent<m.message.data.length
structure XI (np nf:Nat) (x:zbo):Prop where
 path0:0<=x.path
 path1:x.path<np
 id0:0<=x.id
 id1:x.id<nf
 zas:x.chunk.zas=[]
 zbr:x.chunk.zbr=[]
 data:x.chunk.data.length<=16
def zpx (q:List zak):Int:=(q.map fun m=>61-m.parts).sum
structure SI (N:Nat) (s:zah):Prop where
 cfg:zju s.config=0
 nums:∀ (i:Nat) x,s.out[i]?=some x->x.number=s.cum+1+i
 next:s.next=s.cum+1+s.out.length
 cum:s.config.first-1<=s.cum
 owes:s.next+zpx s.queue<=s.config.first+61*s.fates.length
 npaths:(s.paths.length:Int)=s.config.paths
 nhad:(s.sched.had.length:Int)=s.config.streams
 nmids:(s.mids.length:Int)=2*s.config.streams
 waits:(s.queue.length:Int)<=s.config.waiting
 queue:∀ m∈s.queue,QI s.config s.fates m
 out:∀ x∈s.out,XI s.paths.length s.fates.length x
 zba:∀ (i:Nat) p,s.paths[i]?=some p->p.zba=Sco.fl i s.out
 many:s.fates.length<=N
 few:N<=2 ^ 20
theorem zde {c:Config} (h:zju c=0):1<=c.streams/\c.streams<=4/\1<=c.paths/\c.paths<=2/\1<=c.part/\c.part<=16/\40<=c.packet/\c.packet<=120/\1<=c.waiting/\c.waiting<=12/\0<=c.first/\c.first<65536/\1<=(c).turns/\(c).turns<=5:=by
 unfold zju at h;split at h
 . cases h
 . split at h
   . cases h
   . omega
theorem QI.few {c:Config} {fates:List Int} {m:zak} (h:QI c fates m) (hp:1<=c.part):m.parts<=59:=by
 have h1:=h.sent;have h2:=h.left;have h3:=h.len2;have h4:=h.parts;have h5:m.parts*1<=m.parts*c.part:=Int.mul_le_mul_of_nonneg_left hp h4;omega
theorem ykh {c:Config} {fates:List Int} (hp:1<=c.part):∀ {q:List zak},(∀ m∈q,QI c fates m)->0<=zpx q
 | [],_=>by simp [zpx]
 | m::q,h=>by
  have h1:=(h m zz5).few hp;have h2:=ykh hp (q:=q) fun x hx=>h x zz103
  simp only [zpx,zy35,zy137] at h2 ⊢;omega
theorem zmj (m:zak) (q:List zak):zpx (m::q)=61-m.parts+zpx q:=by simp [zpx]
theorem znd (a b:List zak):zpx (a++b)=zpx a+zpx b:=by simp [zpx]
section
variable {N:Nat} {s:zah}
theorem SI.len (h:SI N s):(s.out.length:Int)<=61*N:=by
 have h1:=h.next;have h2:=h.cum;have h3:=h.owes;have h4:=ykh (by have:=zde h.cfg;omega) h.queue;have h5:=h.many;omega
theorem SI.nextle (h:SI N s):s.next<=65536+61*N:=by
 have h3:=h.owes;have h4:=ykh (by have:=zde h.cfg;omega) h.queue;have h5:=h.many;have h6:=zde h.cfg;omega
theorem yoq:∀ {l:List zbo},(∀ x∈l,x.chunk.data.length<=16)->Sco.total l<=16*l.length
 | [],_=>by simp [Sco.total]
 | x::l,h=>by
  have h1:=h x zz5;have h2:=yoq (l:=l) fun y hy=>h y zz121
  rw [Sco.zgi,zy6];omega
theorem SI.total (h:SI N s):(Sco.total s.out:Int)<=16*(61*N):=by
 have h1:=yoq fun x hx=>(h.out x hx).data
 have h2:=h.len;omega
theorem SI.fit (h:SI N s):Fit s:=by
 have h1:=h.len;have h2:=h.few;have h3:=h.total;have h4:=zde h.cfg;have h5:=h.npaths;have h6:=h.nhad;have h7:=h.nmids;have h8:=h.waits;have h9:=h.many;exact ⟨by omega,by omega,⟨by omega,by omega⟩,by omega,by omega,by omega,fun m hm=>by have:=(h.queue m hm).len2;omega⟩
theorem SI.right (h:SI N s):Sco.yik s.out s.cum s.paths.length:=by
 have h1:=h.npaths;have h2:=zde h.cfg;have h3:=h.nextle;have h4:=h.next;have h5:=h.cum;have h6:=h.few;exact ⟨fun x hx=>⟨(h.out x hx).path0,(h.out x hx).path1⟩,by omega,by omega,by omega,by omega,h.nums⟩
theorem SI.pf (h:SI N s):PF 62 s:=by
 have h1:=h.len;have h2:=h.few;have h3:=h.total;have h4:=zde h.cfg;have h5:=h.npaths;have h6:=h.nhad;have h7:=h.nmids;have h8:=h.waits;have h9:=h.many;refine ⟨⟨h.fit,by omega,fun m hm=>⟨(h.queue m hm).id0,(h.queue m hm).id1⟩,fun x hx=>⟨(h.out x hx).id0,(h.out x hx).id1⟩⟩,by omega,by omega,by omega,fun m hm=>?_,fun x hx=>?_,by omega,by omega⟩
 . have q:=h.queue m hm
   have q1:=q.st0;have q2:=q.st1;have q3:=q.len2;have q4:=q.sent;have q5:=q.parts;have q6:0<=m.parts*s.config.part:=Int.mul_nonneg q5 zz0;refine ⟨⟨q1,by omega,by omega,by omega,fun _=>?_⟩,by omega,by omega,q.left,by omega⟩;unfold zgn;split<;>omega
 . have q:=h.out x hx
   exact ⟨by rw [q.zas];decide,by rw [q.zbr];decide⟩
theorem SI.mono {M:Nat} (h:SI N s) (h1:N<=M) (h2:M<=2 ^ 20):SI M s:=⟨h.cfg,h.nums,h.next,h.cum,h.owes,h.npaths,h.nhad,h.nmids,h.waits,h.queue,h.out,h.zba,zy94 h.many h1,h2⟩
end
theorem xge {c:Config} (h:zju c=0):SI 0 (ydi c):=by
 obtain ⟨h1,h2,h3,h4,h5,h6,h7,h8,h9,h10,h11,h12,h13,h14⟩:=zde h;refine ⟨h,fun i x hx=>?_,?_,?_,?_,?_,?_,?_,?_,fun m hm=>?_,fun x hx=>?_,fun i p hp=>?_,?_,by decide⟩
 . simp [ydi] at hx
 . simp [ydi]
 . show c.first-1<=c.first-1;omega
 . show c.first+zpx []<=c.first+61*(([]:List Int).length:Int);simp [zpx]
 . show ((List.replicate c.paths.toNat (Paths.new c.part)).length:Int)=c.paths;simp;omega
 . show ((Sch.new c.streams).had.length:Int)=c.streams
   simp [Sch.new];omega
 . show ((List.replicate (2*c.streams).toNat (0:Int)).length:Int)=2*c.streams;simp;omega
 . show (([]:List zak).length:Int)<=c.waiting;simp;omega
 . simp [ydi] at hm
 . simp [ydi] at hx
 . have hp:(List.replicate c.paths.toNat (Paths.new c.part))[i]?=some p:=hp
   rw [zy123] at hp;split at hp
   . cases hp;simp [Paths.new,Sco.fl,ydi]
   . cases hp
 . show ([]:List Int).length<=0;simp
theorem QI.more {c:Config} {fates:List Int} {m:zak} (h:QI c fates m) (f:Int):QI c (fates++[f]) m :=
 ⟨h.id0,by have:=h.id1;simp;omega,by have:=h.id0;have:=h.id1;rw [zy46 (by omega)];exact h.fate,h.st0,h.st1,h.len1,h.len2,h.parts,h.sent,h.left⟩
theorem XI.more {np nf nf':Nat} {x:zbo} (h:XI np nf x) (hn:nf<=nf'):XI np nf' x:=⟨h.path0,h.path1,h.id0,by have:=h.id1;omega,h.zas,h.zbr,h.data⟩
theorem ybz {N:Nat} {s:zah} {m:Message} (h:SI N s) (he:zep s m=0) (hN:N+1<=2 ^ 20):SI (N+1) (zhv s m):=by
 unfold zep at he;split at he
 . cases he
 split at he
 . cases he
 split at he
 . cases he
 rename_i c1 c2 c3;refine ⟨h.cfg,h.nums,h.next,h.cum,?_,h.npaths,h.nhad,h.nmids,?_,fun q hq=>?_,fun x hx=>(h.out x hx).more (by simp [zhv]),h.zba,?_,hN⟩
 . have h1:=h.owes
   show s.next+zpx (s.queue++[⟨s.fates.length,-1,s.clock,0,0,m⟩])<=s.config.first+61*((s.fates++[1]).length:Int);rw [znd,zmj];simp only [zpx,zy114,List.sum_nil,zy8,zy6,zy12] at h1 ⊢;push_cast;omega
 . show ((s.queue++[_]).length:Int)<=s.config.waiting
   simp;omega
 . rcases zy20.1 hq with hq | hq
   . exact (h.queue q hq).more 1
   . rw [zy25] at hq;subst hq
     exact ⟨by simp,by simp [zhv];omega,by simp [zhv],by dsimp only;omega,by show m.stream<s.config.streams;omega,by dsimp only;omega,by dsimp only;omega,by simp,by simp,by dsimp only;omega⟩
 . have:=h.many
   show (s.fates++[1]).length<=N+1;simp;omega
theorem ysq (id:Int) (s:zah) (m:zak) (hm:m.parts<=60):W (s.next+1)=s.next+1->(zez id s m).next+zpx ([m].filter fun m=>decide (m.id≠id))<=s.next+zpx [m]:=by
 intro hW;unfold zez;by_cases c:m.id=id
 . have e1:[m].filter (fun m=>decide (m.id≠id))=[]:=by simp [c]
   rw [e1];split
   . show W (s.next+1)+zpx []<=_
     simp only [zpx,zy114,List.sum_nil,zy35,zy137];omega
   . simp only [zpx,zy114,List.sum_nil,zy35,zy137];omega
 . rw [zy0 (fun h=>c h.1)]
   simp [c,zpx]
theorem ylu (id:Int):∀ (q:List zak) (s:zah),(∀ m∈q,m.parts<=60)->-1000<=s.next->s.next+q.length<2 ^ 60->s.next=s.cum+1+s.out.length->(∀ (i:Nat) x,s.out[i]?=some x->x.number=s.cum+1+i) ->
 (q.foldl (zez id) s).next=s.cum+1+(q.foldl (zez id) s).out.length/\(∀ (i:Nat) x,(q.foldl (zez id) s).out[i]?=some x->x.number=s.cum+1+i)/\(q.foldl (zez id) s).next+zpx (q.filter fun m=>decide (m.id≠id))<=s.next+zpx q
 | [],s,_,_,_,h1,h2=>⟨h1,h2,zy75 _⟩
 | m::q,s,hq,h0,hb,h1,h2=>by
  have hW:W (s.next+1)=s.next+1:=by simp only [zy6] at hb;exact zbu zz0 zz0
  have hk:=zya id s m;have hcum:(zez id s m).cum=s.cum:=by rw [hk]
  have ho:=ysq id s m (hq m zz5) hW;have h1':(zez id s m).next=(zez id s m).cum+1+(zez id s m).out.length/\s.next<=(zez id s m).next/\(zez id s m).next<=s.next+1:=by
   unfold zez;split
   . dsimp only;rw [hW];simp;omega
   . exact ⟨h1,by omega,by omega⟩
  have h2':∀ (i:Nat) x,(zez id s m).out[i]?=some x->x.number=(zez id s m).cum+1+i:=by
   rw [hcum];unfold zez;split
   . intro i x hx
     have hx:(s.out++[zpg s.next m])[i]?=some x:=hx;rcases zy79 i s.out.length with hi | hi
     . rw [zy46 hi] at hx;exact h2 i x hx
     . rw [zy45 hi] at hx
       have:i-s.out.length=0:=by
        rcases zy142 (i-s.out.length) with h | h
        . exact h
        . rw [zy50 (by simp;omega)] at hx;cases hx
       rw [this] at hx;cases hx;show s.next=_;omega
   . exact h2
  obtain ⟨r1,r2,r3⟩:=ylu id q (zez id s m) (fun x hx=>hq x zz103) zz0 (by simp only [zy6] at hb;push_cast at hb;omega) h1'.1 h2';rw [zy52];rw [hcum] at r1 r2;refine ⟨r1,r2,?_⟩;have e1:(m::q).filter (fun m=>decide (m.id≠id))=[m].filter (fun m=>decide (m.id≠id))++q.filter fun m=>decide (m.id≠id):=by rw [<- zy42];rfl
  rw [e1,znd,zmj];simp only [zpx,zy35,zy114,zy137,List.sum_nil] at ho r3 ⊢;omega
theorem yss {np nf:Nat} (id:Int) (hnp:0<np) (hid:0<=id/\id<nf):∀ (q:List zak) (s:zah),(∀ x∈s.out,XI np nf x)->∀ x∈(q.foldl (zez id) s).out,XI np nf x
 | [],s,h,x,hx=>h x hx
 | m::q,s,h,x,hx=>by
  refine yss id hnp hid q (zez id s m) (fun y hy=>?_) x hx;unfold zez at hy;split at hy
  . rename_i c
    rcases zy20.1 hy with hy | hy
    . exact h y hy
    . rw [zy25] at hy;subst hy
      exact ⟨zy75 _,by show (0:Int)<np;omega,by show 0<=m.id;omega,by show m.id<nf;omega,rfl,rfl,by simp [zpg]⟩
  . exact h y hy
theorem zyb {s:zah} {i:Nat} {p:Path} (h:(zck s).paths[i]?=some p):p.zba=Sco.fl i s.out:=by
 have h:(s.paths.mapIdx fun i p=>flP s.out i p)[i]?=some p:=h;rw [zy102] at h;cases hp:s.paths[i]? with
 | none=>rw [hp] at h;cases h
 | some q=>rw [hp] at h;cases h;rfl
theorem zts (s:zah) (id:Nat):(zfg s id).out=(s.queue.foldl (zez id) {s with fates:=s.fates.set id 3}).out.map (Sco.zgk id):=rfl
theorem yem (s:zah) (id:Nat):(zfg s id).next=(s.queue.foldl (zez id) {s with fates:=s.fates.set id 3}).next:=rfl
theorem zra (s:zah) (id:Nat):(zfg s id).queue=s.queue.filter fun m=>decide (m.id≠(id:Int)):=rfl
theorem zqz (s:zah) (id:Nat):(zfg s id).fates=s.fates.set id 3:=by
 show (s.queue.foldl (zez id) {s with fates:=s.fates.set id 3}).fates=_;rw [zmz]
theorem yjj {s:zah} {id:Nat} {i:Nat} {p:Path} (h:(zfg s id).paths[i]?=some p):p.zba=Sco.fl i (zfg s id).out:=by
 unfold zfg at h ⊢;dsimp only at h ⊢;have:=zyb h;exact this
theorem yjk {N:Nat} {s:zah} (h:SI N s) {id:Nat} (hid:id<s.fates.length):SI N (zfg s id):=by
 obtain ⟨r,-,-,-⟩:=zkd s id;have hw:=zde h.cfg;have hl:=h.nextle;have hw2:=h.waits;have hf:=h.few;have hc:=h.cum;have hn:=h.next;obtain ⟨e1,e2,e3⟩:=ylu id s.queue {s with fates:=s.fates.set id 3} (fun m hm=>by have:=(h.queue m hm).few zz0;omega) zz81 zz81 h.next h.nums;refine ⟨by rw [r.config];exact h.cfg,fun i x hx=>?_,?_,by rw [r.config,r.cum];exact h.cum,?_,by rw [r.paths,r.config];exact h.npaths,by rw [r.had,r.config];exact h.nhad,by rw [r.mids,r.config];exact h.nmids,?_,fun m hm=>?_,fun x hx=>?_,fun i p hp=>?_,by rw [r.fates];exact h.many,h.few⟩
 . rw [zts,zy17] at hx
   cases hy:(s.queue.foldl (zez id) {s with fates:=s.fates.set id 3}).out[i]? with
   | none=>rw [hy] at hx;cases hx
   | some y =>
    rw [hy] at hx;cases hx;rw [r.cum,show (Sco.zgk id y).number=y.number by unfold Sco.zgk;split<;>rfl];exact e2 i y hy
 . rw [yem,zts,r.cum,zy2];exact e1
 . rw [yem,zra,r.config,r.fates]
   have:=h.owes;dsimp only at e3;omega
 . rw [zra,r.config]
   have:=zy30 (fun m:zak=>decide (m.id≠(id:Int))) s.queue;omega
 . rw [zra] at hm
   obtain ⟨hm1,hm2⟩:=zy138.1 hm;have hm2:m.id≠id:=zy24 hm2;have q:=h.queue m hm1;have q0:=q.id0;rw [r.config,zqz];exact ⟨q.id0,by rw [zy26];exact q.id1,by rw [zy91 (by omega)];exact q.fate,q.st0,q.st1,q.len1,q.len2,q.parts,q.sent,q.left⟩
 . rw [zts] at hx
   obtain ⟨y,hy,rfl⟩:=zy36.1 hx;have hp:=h.npaths;have:=yss (np:=s.paths.length) (nf:=s.fates.length) id zz0 ⟨by omega,by omega⟩ s.queue {s with fates:=s.fates.set id 3} h.out y hy;rw [r.paths,r.fates];unfold Sco.zgk;split
   . exact ⟨this.path0,this.path1,this.id0,this.id1,this.zas,this.zbr,this.data⟩
   . exact this
 . exact yjj hp
theorem ysv {N:Nat} {s:zah} (h:SI N s) {m:zak} (hm:0<=m.id/\m.id<s.fates.length):SI N (zlm s m)/\(zlm s m).fates.length=s.fates.length:=by
 unfold zlm;exact yy125
theorem ysw {N:Nat} {s:zah} (h:SI N s) {m:zbo} (hm:0<=m.id/\m.id<s.fates.length):SI N (zhl s m)/\(zhl s m).fates.length=s.fates.length:=by
 unfold zhl;exact yy125
theorem yap {N:Nat}:∀ (q:List zak) (s:zah),SI N s->(∀ m∈q,0<=m.id/\m.id<s.fates.length)->SI N (q.foldl zlm s)/\(q.foldl zlm s).fates.length=s.fates.length
 | [],s,h,_=>⟨h,rfl⟩
 | m::q,s,h,hq=>by
  obtain ⟨a,b⟩:=ysv h (hq m zz5);obtain ⟨c,d⟩:=yap q (zlm s m) a fun x hx=>by rw [b];exact hq x zz103
  exact ⟨c,d.trans b⟩
theorem ymb {N:Nat}:∀ (q:List zbo) (s:zah),SI N s->(∀ m∈q,0<=m.id/\m.id<s.fates.length)->SI N (q.foldl zhl s)/\(q.foldl zhl s).fates.length=s.fates.length
 | [],s,h,_=>⟨h,rfl⟩
 | m::q,s,h,hq=>by
  obtain ⟨a,b⟩:=ysw h (hq m zz5);obtain ⟨c,d⟩:=ymb q (zhl s m) a fun x hx=>by rw [b];exact hq x zz103
  exact ⟨c,d.trans b⟩
theorem zuw {N:Nat} {s:zah} (h:SI N s):SI N (expire s)/\(expire s).fates.length=s.fates.length:=by
 obtain ⟨a,b⟩:=yap s.queue s h fun m hm=>⟨(h.queue m hm).id0,(h.queue m hm).id1⟩
 obtain ⟨c,d⟩:=ymb (s.queue.foldl zlm s).out _ a fun x hx=>⟨(a.out x hx).id0,(a.out x hx).id1⟩
 exact ⟨c,d.trans b⟩
end Snd
namespace Snd
open Ser
theorem zfk {α:Type} (l:List α) (k:Nat) (f:α->α):(setAt l k f).length=l.length:=by
 unfold setAt;split<;>simp
theorem zwd {α:Type} {l:List α} {k:Nat} {f:α->α} {i:Nat} {y:α} (h:(setAt l k f)[i]?=some y):(i≠k/\l[i]?=some y)\/(i=k/\∃ x,l[k]?=some x/\y=f x):=by
 unfold setAt at h;split at h
 . rename_i hn
   by_cases e:i=k
   . subst e;rw [hn] at h;cases h
   . exact .inl ⟨e,h⟩
 . rename_i x hx
   by_cases e:i=k
   . subst e
     have hk:=(zy9.1 hx).1;rw [zy41 hk] at h;cases h;exact .inr ⟨rfl,x,hx,rfl⟩
   . rw [zy91 (fun h=>e h.symm)] at h;exact .inl ⟨e,h⟩
theorem zqy (p:Int) (x:zbo) (l:List zbo):Sco.fl p (x::l)=Sco.fl p [x]+Sco.fl p l:=by
 rw [show x::l=[x]++l from rfl,Sco.ymh]
theorem xbk (p:Int):∀ {l:List zbo} {i:Nat} {x:zbo},l[i]?=some x->∀ y,Sco.fl p (l.set i y)+Sco.fl p [x]=Sco.fl p l+Sco.fl p [y]
 | [],i,x,h,y=>by simp at h
 | z::l,0,x,h,y=>by
  simp only [List.getElem?_cons_zero,Option.some.injEq] at h;subst h;rw [List.set_cons_zero,zqy,zqy p z l];omega
 | z::l,i+1,x,h,y=>by
  simp only [zy80] at h;have:=xbk p h y;rw [zy140,zqy,zqy p z l];omega
section
variable {N:Nat} {s:zah}
theorem SI.side (h:SI N s) {ps:List Path} {k:Int} {r:Int} {f:Bool} {z:Int} (hl:ps.length=s.paths.length) (hf:∀ (i:Nat) p,ps[i]?=some p->p.zba=Sco.fl i s.out) :
 SI N {s with paths:=ps,clock:=k,room:=r,forward:=f,recover:=z} :=
 ⟨h.cfg,h.nums,h.next,h.cum,h.owes,by show (ps.length:Int)=_;rw [hl];exact h.npaths,h.nhad,h.nmids,h.waits,h.queue,fun x hx=>by show XI ps.length _ x;rw [hl];exact h.out x hx,hf,h.many,h.few⟩
theorem choose_lt' (h:SI N s):choose s<s.paths.length:=(zdm h.pf.some).2
theorem zih {o:List (List Chunk)} (h:SI N s):SI N (forward ⟨s,o⟩).s:=by
 unfold forward;split
 . exact h
 . refine h.side (zfk _ _ _) fun i p hp=>?_
   rcases zwd hp with ⟨-,hp⟩ | ⟨rfl,q,hq,rfl⟩
   . exact h.zba i p hp
   . rw [<- h.zba _ q hq]
     unfold zcs;split<;>rfl
theorem ytc {p:zfl} (h:SI N p.s) {i path:Nat} {x:zbo} (hx:p.s.out[i]?=some x) (hst:x.state≠1) (hp:path<p.s.paths.length):SI N (fly p i path).s:=by
 obtain ⟨s,o⟩:=p;dsimp only at h hx hp;have hxm:=zy21 hx;have hxi:=h.out x hxm;have hil:=(zy9.1 hx).1;have hw:=zde h.cfg;have hnp:=h.npaths;have htot:=h.total;have hfew:=h.few;have h0:∀ q:Int,Sco.fl q [x]=0:=fun q=>by rw [Sco.zuy,zy0 (fun h=>hst h.1)]
 unfold fly;simp only [hx];refine ⟨h.cfg,fun j y hy=>?_,?_,h.cum,h.owes,?_,h.nhad,h.nmids,h.waits,h.queue,fun y hy=>?_,fun j q hq=>?_,h.many,h.few⟩
 . have hy:(s.out.set i (zsp x path))[j]?=some y:=hy
   by_cases e:i=j
   . subst e
     rw [zy41 hil] at hy;cases hy;exact h.nums i x hx
   . rw [zy91 e] at hy;exact h.nums j y hy
 . show s.next=s.cum+1+((s.out.set i _).length:Int)
   rw [zy26];exact h.next
 . show ((setAt s.paths path _).length:Int)=_
   rw [zfk];exact h.npaths
 . have hy:y∈s.out.set i (zsp x path):=hy
   show XI (setAt s.paths path _).length _ y;rw [zfk];rcases zy66 hy with hy | rfl
   . exact h.out y hy
   . exact ⟨by show (0:Int)<=path;omega,by show (path:Int)<s.paths.length;omega,hxi.id0,hxi.id1,hxi.zas,hxi.zbr,hxi.data⟩
 . show q.zba=(Sco.fl j (s.out.set i (zsp x path)):Nat)
   have e1:=xbk (j:Int) hx (zsp x path);rw [h0] at e1;have e2:Sco.fl (j:Int) [zsp x path]=if path=j then x.chunk.data.length else 0:=by
    rw [Sco.zuy];by_cases e:path=j
    . rw [zy1 e,zy1 ⟨rfl,by show (path:Int)=j;omega⟩];rfl
    . rw [zy0 e,zy0 (by rintro ⟨-,h⟩;have h:(path:Int)=j:=h;omega)]
   rcases zwd hq with ⟨ne,hq⟩ | ⟨rfl,w,hw2,rfl⟩
   . rw [h.zba j q hq]
     rw [zy0 (fun h=>ne h.symm)] at e2;omega
   . rw [zy1 rfl] at e2
     have e3:=h.zba j w hw2;have e4:=Sco.yyj (j:Int) s.out;have e5:=hxi.data;show W (w.zba+x.chunk.data.length)=_;rw [e3,zbu (by omega) (by omega)];omega
theorem zoy {p:zfl} (h:SI N p.s) {path:Nat} (hp:path<p.s.paths.length) (i:Nat):SI N (zdh path p i).s/\(zdh path p i).s.paths.length=p.s.paths.length:=by
 unfold zdh;split
 . exact ⟨h,rfl⟩
 . rename_i x hx
   split
   . rename_i c
     refine ⟨ytc h hx (by rw [c.1];decide) hp,?_⟩;unfold fly;simp only [hx];exact zfk _ _ _
   . exact ⟨h,rfl⟩
theorem ydn {path:Nat}:∀ (L:List Nat) {p:zfl},SI N p.s->path<p.s.paths.length->SI N (L.foldl (zdh path) p).s
 | [],_,h,_=>h
 | i::L,p,h,hp=>by
  obtain ⟨a,b⟩:=zoy h hp i;exact ydn L a (by rw [b];exact hp)
theorem ztn {p:zfl} (h:SI N p.s):SI N (again p).s:=ydn _ h (choose_lt' h)
theorem xad {q:List zak} {k:Nat} {m y:zak} (h:q[k]?=some m):zpx (q.set k y)=zpx q+m.parts-y.parts:=by
 obtain ⟨a,b,rfl,rfl⟩:∃ a b,q=a++m::b/\a.length=k:=⟨q.take k,q.drop (k+1),by
  have hk:=(zy9.1 h)
  obtain ⟨hk,e⟩:=hk;rw [<- e,zy106,zy31],by have:=(zy9.1 h).1;simp;omega⟩
 rw [zy153 _ _ (zy23 _),zy95,List.set_cons_zero,znd,znd,zmj,zmj];omega
theorem yqf {q:List zak} {k:Nat} {m:zak} (h:q[k]?=some m):zpx (q.eraseIdx k)=zpx q+m.parts-61:=by
 obtain ⟨a,b,rfl,rfl⟩:∃ a b,q=a++m::b/\a.length=k:=⟨q.take k,q.drop (k+1),by
  have hk:=(zy9.1 h)
  obtain ⟨hk,e⟩:=hk;rw [<- e,zy106,zy31],by have:=(zy9.1 h).1;simp;omega⟩
 rw [List.eraseIdx_append_of_length_le (zy23 _),zy95,List.eraseIdx_cons_zero,znd,znd,zmj];omega
theorem ypz (s:zah) (m:zak):(zds s m).length=s.mids.length:=by
 unfold zds;split
 . exact zfk _ _ _
 . rfl
theorem ytk (sc:zhr) (m:zak) (n:Int) (o:Bool):(Sch.had sc m n o).had.length=sc.had.length:=by
 unfold Sch.had;dsimp only;split<;>simp
def zxe (s:zah) (k:Nat) (m:zak):zah :=
 {s with mids:=zds s m,sched:=Sch.had s.sched {m with mid:=zdf s m} (many s m) (decide (m.sent+many s m=m.message.data.length)),out:=s.out++[⟨s.next,m.id,0,0,0,0,m.came,m.message.life,m.message.tries,cut s m (many s m)⟩],next:=W (s.next+1),queue:=if decide (m.sent+many s m=m.message.data.length) then s.queue.eraseIdx k else s.queue.set k {m with mid:=zdf s m,sent:=m.sent+many s m,parts:=W (m.parts+1)}}
theorem zfx (s:zah) (o:List (List Chunk)) (k:Nat) (m:zak):zlr ⟨s,o⟩ k m (many s m)=fly ⟨zxe s k m,o⟩ s.out.length (choose s):=rfl
theorem ysp (h:SI N s) {k:Nat} {m:zak} (hm:s.queue[k]?=some m):SI N (zxe s k m):=by
 have hw:=zde h.cfg;have q:=h.queue m (zy21 hm);have hfew:=q.few zz0;have hN:=h.few;have hnl:=h.nextle;have hcum:=h.cum;have hnx:=h.next;have hp:=h.npaths;have q1:=q.parts;have q2:=q.sent;have q3:=q.left;have q4:=q.len2;have q5:0<=m.parts*s.config.part:=Int.mul_nonneg q1 zz0;obtain ⟨n1,n2,n3⟩:=zrh (s:=s) (m:=m) zz0 zz0 zz0 q3 zz0;have n4:many s m<=s.config.part:=by unfold many;split<;>omega
 have hW:W (s.next+1)=s.next+1:=zbu zz0 zz0;have hWp:W (m.parts+1)=m.parts+1:=zbu zz0 zz0;refine ⟨h.cfg,fun j y hy=>?_,?_,h.cum,?_,h.npaths,?_,?_,?_,fun y hy=>?_,fun y hy=>?_,fun j p hp=>?_,h.many,h.few⟩
 . have hy:(s.out++[_])[j]?=some y:=hy
   rcases zy79 j s.out.length with hj | hj
   . rw [zy46 hj] at hy;exact h.nums j y hy
   . rw [zy45 hj] at hy
     have e:j-s.out.length=0:=by
      rcases zy142 (j-s.out.length) with h | h
      . exact h
      . rw [zy50 (by simp;omega)] at hy;cases hy
     rw [e] at hy;cases hy;show s.next=s.cum+1+j;omega
 . show W (s.next+1)=s.cum+1+((s.out++[_]).length:Int)
   rw [hW,zy8,zy62];push_cast;omega
 . have:=h.owes
   show W (s.next+1)+zpx (if decide (m.sent+many s m=m.message.data.length) then s.queue.eraseIdx k else s.queue.set k {m with mid:=zdf s m,sent:=m.sent+many s m,parts:=W (m.parts+1)})<=s.config.first+61*(s.fates.length:Int);rw [hW];split
   . rw [yqf hm];omega
   . rw [xad hm];dsimp only;rw [hWp];omega
 . show ((Sch.had s.sched _ _ _).had.length:Int)=_
   rw [ytk];exact h.nhad
 . show ((zds s m).length:Int)=_
   rw [ypz];exact h.nmids
 . show ((if decide (m.sent+many s m=m.message.data.length) then s.queue.eraseIdx k else s.queue.set k {m with mid:=zdf s m,sent:=m.sent+many s m,parts:=W (m.parts+1)}).length:Int)<=s.config.waiting
   have:=h.waits;split
   . rw [zy81];split<;>omega
   . rw [zy26];exact this
 . have hy:y∈(if decide (m.sent+many s m=m.message.data.length) then s.queue.eraseIdx k else s.queue.set k {m with mid:=zdf s m,sent:=m.sent+many s m,parts:=W (m.parts+1)}):=hy
   show QI s.config s.fates y;split at hy
   . exact h.queue y (zy68 hy)
   . rename_i c
     have c:m.sent+many s m≠m.message.data.length:=by simpa using c
     rcases zy66 hy with hy | rfl
     . exact h.queue y hy
     . have e:many s m=s.config.part:=by
        unfold many at c ⊢;split at c
        . omega
        . rename_i c2;rw [zy0 c2]
       refine ⟨q.id0,q.id1,q.fate,q.st0,q.st1,q.len1,q.len2,?_,?_,?_⟩
       . show 0<=W (m.parts+1);omega
       . show m.sent+many s m=W (m.parts+1)*s.config.part
         rw [hWp,e,q2,Int.add_mul,Int.one_mul]
       . show m.sent+many s m<m.message.data.length;omega
 . have hy:y∈s.out++[_]:=hy
   rcases zy20.1 hy with hy | hy
   . exact h.out y hy
   . rw [zy25] at hy;subst hy
     refine ⟨zy75 _,by show (0:Int)<s.paths.length;omega,q.id0,q.id1,rfl,rfl,?_⟩;show ((m.message.data.drop m.sent.toNat).take (many s m).toNat).length<=16;rw [zy67];omega
 . show p.zba=(Sco.fl j (s.out++[_]):Nat)
   rw [Sco.ymh,h.zba j p hp,Sco.zuy,zy0 (by rintro ⟨h,-⟩;cases h)];rfl
theorem zvl {p q:zfl} (h:SI N p.s) (hq:next p=some q):SI N q.s:=by
 obtain ⟨s,o⟩:=p;unfold next at hq;dsimp only at hq h;split at hq
 . cases hq
 rename_i c;cases hm:s.queue[(zei s).toNat]? with
 | none=>rw [hm] at hq;cases hq
 | some m =>
  rw [hm] at hq;dsimp only at hq;split at hq
  . cases hq
  . cases hq
    rw [zfx];have h2:=ysp h hm;exact ytc (p:=⟨zxe s (zei s).toNat m,o⟩) h2 (x:=⟨s.next,m.id,0,0,0,0,m.came,m.message.life,m.message.tries,cut s m (many s m)⟩) (by show (s.out++[_])[s.out.length]?=_;simp) (by intro h;cases h) (choose_lt' h)
theorem ynn:∀ (n:Nat) {p:zfl},SI N p.s->SI N (zfu n p).s
 | 0,_,h=>h
 | n+1,p,h=>by
  unfold zfu;split
  . exact h
  . rename_i q hq;exact ynn n (zvl h hq)
theorem xba (h:SI N s):SI N (yde s):=by
 refine h.side zz5 fun i p hp=>?_
 rw [zy17] at hp;cases hq:s.paths[i]? with
 | none=>rw [hq] at hp;cases hp
 | some q =>
  rw [hq] at hp;cases hp;rw [<- h.zba i q hq];unfold zfv;split
  . rfl
  . split<;>rfl
theorem xed (h:SI N s):SI N (zjs s).1:=xba (ynn 61 (ztn (zih (zuw h).1)))
theorem zux {n:Int}:∀ {l:List zbo} {cum:Int},(∀ (i:Nat) x,l[i]?=some x->x.number=cum+1+i)->cum<=n->l.filter (fun x=>decide (x.number>n))=l.drop (n-cum).toNat
 | [],_,_,_=>by simp
 | x::l,cum,h,hn=>by
  have h0:=h 0 x rfl;have h1:∀ (i:Nat) y,l[i]?=some y->y.number=cum+1+1+i:=fun i y hy=>by
   have:=h (i+1) y (by rw [zy80];exact hy);push_cast at this;omega
  by_cases c:cum=n
  . subst c
    have:∀ y∈x::l,y.number>cum:=fun y hy=>by
     obtain ⟨i,hi⟩:=List.getElem?_of_mem hy;have:=h i y hi;omega
    rw [zy92.2 fun y hy=>zy10 (this y hy)];simp
  . rw [zy49,zy0 (by simp at h0 ⊢;omega),zux h1 (by omega)]
    have:(n-cum).toNat=(n-(cum+1)).toNat+1:=by omega
    rw [this,List.drop_succ_cons]
theorem xek {l:List zbo} {cum:Int} {c:Chunk} {np:Int} (h:∀ (i:Nat) x,l[i]?=some x->x.number=cum+1+i) (hk:¬ (zdd cum c.tag<cum\/zdd cum c.tag>cum+l.length)) :
 ∃ g:zbo->zbo,(∀ x,(g x).number=x.number/\(g x).path=x.path/\(g x).id=x.id/\(g x).chunk=x.chunk)/\(Sco.zix l cum c np).1=(l.drop (zdd cum c.tag-cum).toNat).map g:=by
 refine ⟨fun x=>Sco.age (Sco.zss c (zdd cum c.tag) l) (Sco.zbp c (zdd cum c.tag) x),fun x=>?_,?_⟩
 . have e1:∀ (k:Int) y,(Sco.age k y).number=y.number/\(Sco.age k y).path=y.path/\(Sco.age k y).id=y.id/\(Sco.age k y).chunk=y.chunk:=fun k y=>by unfold Sco.age;(repeat' split)<;>exact ⟨rfl,rfl,rfl,rfl⟩
   have e2:∀ k y,(Sco.zbp c k y).number=y.number/\(Sco.zbp c k y).path=y.path/\(Sco.zbp c k y).id=y.id/\(Sco.zbp c k y).chunk=y.chunk:=fun k y=>by unfold Sco.zbp;split<;>exact ⟨rfl,rfl,rfl,rfl⟩
   obtain ⟨a1,a2,a3,a4⟩:=e1 (Sco.zss c (zdd cum c.tag) l) (Sco.zbp c (zdd cum c.tag) x);obtain ⟨b1,b2,b3,b4⟩:=e2 (zdd cum c.tag) x;exact ⟨a1.trans b1,a2.trans b2,a3.trans b3,a4.trans b4⟩
 . rw [Sco.zix,zy0 hk]
   dsimp only;rw [Sco.left,zux h (by omega),zy113];rfl
theorem yeu (h:SI N s) {c:Chunk} (hk:¬ (zdd s.cum c.tag<s.cum\/zdd s.cum c.tag>s.cum+s.out.length)):SI N (zpl s c (Sco.zix s.out s.cum c s.paths.length)):=by
 obtain ⟨g,hg,e⟩:=xek (np:=s.paths.length) h.nums hk;have e2:(Sco.zix s.out s.cum c s.paths.length).2.1=zdd s.cum c.tag:=by rw [Sco.zix,zy0 hk]
 have hl:(zpl s c (Sco.zix s.out s.cum c s.paths.length)).paths.length=s.paths.length:=by
  show (List.mapIdx _ (List.mapIdx _ _)).length=_;simp
 have ho:(zpl s c (Sco.zix s.out s.cum c s.paths.length)).out=(s.out.drop (zdd s.cum c.tag-s.cum).toNat).map g:=e;have hc:(zpl s c (Sco.zix s.out s.cum c s.paths.length)).cum=zdd s.cum c.tag:=e2;have hn:=h.next;have hcu:=h.cum;refine ⟨h.cfg,fun i x hx=>?_,?_,?_,h.owes,by rw [hl];exact h.npaths,h.nhad,h.nmids,h.waits,h.queue,fun x hx=>?_,fun i p hp=>?_,h.many,h.few⟩
 case refine_5=>have:=zyb (s:={s with out:=(Sco.zix s.out s.cum c s.paths.length).1,cum:=(Sco.zix s.out s.cum c s.paths.length).2.1,room:=c.room,paths:=zjz s.paths s.config.part (decide ((Sco.zix s.out s.cum c s.paths.length).2.1>s.cum)) (Sco.zix s.out s.cum c s.paths.length).2.2.1}) hp;exact this
 . rw [ho,zy17,zy53] at hx
   cases hy:s.out[(zdd s.cum c.tag-s.cum).toNat+i]? with
   | none=>rw [hy] at hx;cases hx
   | some y =>
    rw [hy] at hx;cases hx;rw [(hg y).1,h.nums _ y hy,hc];push_cast;omega
 . rw [ho,hc,zy2,zy38]
   show s.next=_;omega
 . rw [hc];show s.config.first-1<=_;omega
 . rw [ho] at hx
   obtain ⟨y,hy,rfl⟩:=zy36.1 hx;have q:=h.out y (zy64 hy);obtain ⟨g1,g2,g3,g4⟩:=hg y;rw [hl];exact yy104
theorem yev (h:SI N s) {part:Int} {L:List Int}:SI N (zln part s L):=by
 unfold zln;split
 . exact h
 . split
   . refine h.side (zfk _ _ _) fun i p hp=>?_
     rcases zwd hp with ⟨-,hp⟩ | ⟨rfl,q,hq,rfl⟩
     . exact h.zba i p hp
     . rw [<- h.zba _ q hq];rfl
   . exact h
theorem yew (h:SI N s) {b:Bool}:SI N (zgv b s):=by
 unfold zgv;split
 . exact h.side rfl h.zba
 . exact h
theorem ywg (h:SI N s):SI N (settle s):=by
 have hl:(settle s).fates.length=s.fates.length:=by show (List.mapIdx _ _).length=_;simp
 refine ⟨h.cfg,h.nums,h.next,h.cum,by rw [hl];exact h.owes,h.npaths,h.nhad,h.nmids,h.waits,fun m hm=>?_,fun x hx=>by rw [hl];exact h.out x hx,h.zba,by rw [hl];exact h.many,h.few⟩;have hm:m∈s.queue:=hm;have q:=h.queue m hm;have q0:=q.id0;refine ⟨q.id0,by rw [hl];exact q.id1,?_,q.st0,q.st1,q.len1,q.len2,q.parts,q.sent,q.left⟩;show (s.fates.mapIdx fun id f=>settled s id f)[m.id.toNat]?=some 1;rw [zy102,q.fate];show some (settled s m.id.toNat 1)=some 1;rw [settled,zy0];rintro ⟨-,h2,-⟩;rw [zy146] at h2;exact h2 m hm (zy10 zz0)
theorem xdf (h:SI N s) (c:Chunk):SI N (yjo s c):=by
 unfold yjo;split
 . exact h
 split
 . exact h
 . rename_i c1 c2
   rw [ztu];exact ywg (yew (yev (yeu h c2)))
theorem ysy (i j:Nat):∀ l:List zbo,Sco.fl j (l.map (Sco.late i))=if i=j then 0 else Sco.fl j l
 | []=>by simp [Sco.fl]
 | x::l=>by
  rw [zy35,zqy,ysy i j l,zqy (j:Int) x l,Sco.zuy,Sco.zuy];unfold Sco.late;by_cases c:x.state=1/\x.path=i
  . rw [zy1 c,zy0 (by rintro ⟨h,-⟩;cases h)]
    by_cases e:i=j
    . rw [zy1 e,zy1 e]
    . rw [zy0 e,zy0 e,zy0 (by rintro ⟨-,h⟩;have:=c.2;omega)]
  . rw [zy0 c]
    by_cases e:i=j
    . subst e;rw [zy1 rfl,zy1 rfl,zy0 c]
    . rw [zy0 e,zy0 e]
theorem yzf (h:SI N s) (part:Int) (i:Nat):SI N (znq part s i):=by
 unfold znq;split
 . exact h
 rename_i p hp;split
 . exact h
 have hil:=(zy9.1 hp).1;have h2:SI N {s with out:=s.out.map (Sco.late i),paths:=s.paths.set i (Paths.late p part)}:=by
  have e:∀ x,(Sco.late i x).number=x.number/\(Sco.late i x).path=x.path/\(Sco.late i x).id=x.id/\(Sco.late i x).chunk=x.chunk:=fun x=>by unfold Sco.late;split<;>exact ⟨rfl,rfl,rfl,rfl⟩
  refine ⟨h.cfg,fun j y hy=>?_,?_,h.cum,h.owes,?_,h.nhad,h.nmids,h.waits,h.queue,fun y hy=>?_,fun j q hq=>?_,h.many,h.few⟩
  . have hy:(s.out.map (Sco.late i))[j]?=some y:=hy
    rw [zy17] at hy;cases hz:s.out[j]? with
    | none=>rw [hz] at hy;cases hy
    | some z=>rw [hz] at hy;cases hy;rw [(e z).1];exact h.nums j z hz
  . show s.next=s.cum+1+((s.out.map (Sco.late i)).length:Int)
    rw [zy2];exact h.next
  . show ((s.paths.set i _).length:Int)=_
    rw [zy26];exact h.npaths
  . have hy:y∈s.out.map (Sco.late i):=hy
    obtain ⟨z,hz,rfl⟩:=zy36.1 hy;have q:=h.out z hz;obtain ⟨g1,g2,g3,g4⟩:=e z;show XI (s.paths.set i _).length _ _;rw [zy26];exact yy104
  . have hq:(s.paths.set i (Paths.late p part))[j]?=some q:=hq
    show q.zba=(Sco.fl j (s.out.map (Sco.late i)):Nat);rw [ysy];by_cases e:i=j
    . subst e
      rw [zy41 hil] at hq;cases hq;rw [zy1 rfl];rfl
    . rw [zy91 e] at hq
      rw [zy0 e];exact h.zba j q hq
 dsimp only;split
 . exact h2.side rfl h2.zba
 . exact h2
theorem ynf (part:Int):∀ (L:List Nat) {s:zah},SI N s->SI N (L.foldl (znq part) s)
 | [],_,h=>h
 | i::L,_,h=>ynf part L (yzf h part i)
theorem ycv (h:SI N s):SI N (tick s):=ynf _ _ (h.side rfl h.zba)
end
end Snd
namespace Snd
open Ser
section
variable {L:List Message} {s:zah}
end
theorem yls (s:zah) (id:Nat):(zfg s id).config=s.config:=(zkd s id).1.config
theorem yea:∀ (q:List zak) (s:zah),(∀ m∈q,0<=m.id)->(q.foldl zlm s).config=s.config
 | [],_,_=>rfl
 | m::q,s,h=>by
  rw [zy52,yea q _ fun x hx=>h x (by simp [hx])];unfold zlm;split
  . have:=h m zz5
    rw [show m.id=((m.id.toNat:Nat):Int) by omega];exact yls s _
  . rfl
theorem yeb:∀ (q:List zbo) (s:zah),(∀ m∈q,0<=m.id)->(q.foldl zhl s).config=s.config
 | [],_,_=>rfl
 | m::q,s,h=>by
  rw [zy52,yeb q _ fun x hx=>h x (by simp [hx])];unfold zhl;split
  . have:=h m zz5
    rw [show m.id=((m.id.toNat:Nat):Int) by omega];exact yls s _
  . rfl
theorem ypj {N:Nat} {s:zah} (h:SI N s):(expire s).config=s.config:=by
 obtain ⟨h2,-⟩:=yap s.queue s h fun m hm=>⟨(h.queue m hm).id0,(h.queue m hm).id1⟩
 unfold expire;rw [yeb _ _ fun x hx=>(h2.out x hx).id0,yea _ _ fun m hm=>(h.queue m hm).id0]
theorem ysz (p:zfl) (i c:Nat):(fly p i c).s.config=p.s.config:=by unfold fly;split<;>rfl
theorem zxr {c:Nat}:∀ (l:List Nat) (p:zfl),(l.foldl (zdh c) p).s.config=p.s.config
 | [],_=>rfl
 | i::l,p=>by
  rw [zy52,zxr l];unfold zdh;split
  . rfl
  . split
    . exact ysz _ _ _
    . rfl
theorem yzm {p q:zfl} (h:next p=some q):q.s.config=p.s.config:=by
 obtain ⟨s,o⟩:=p;unfold next at h;dsimp only at h;split at h
 . cases h
 cases hm:s.queue[(zei s).toNat]? with
 | none=>rw [hm] at h;cases h
 | some m =>
  rw [hm] at h;dsimp only at h;split at h
  . cases h
  . cases h
    rw [zfx,ysz];rfl
theorem yfr:∀ (n:Nat) (p:zfl),(zfu n p).s.config=p.s.config
 | 0,_=>rfl
 | n+1,p=>by
  unfold zfu;split
  . rfl
  . rename_i q hq;rw [yfr n q,yzm hq]
theorem yjd (p:zfl):(forward p).s.config=p.s.config:=by unfold forward;split<;>rfl
theorem xah {N:Nat} {s:zah} (h:SI N s):(zjs s).1.config=s.config:=by
 show (zml s).s.config=_;unfold zml;rw [yfr];unfold again;rw [zxr,yjd];exact ypj h
end Snd
namespace Jn
open Srt
def zmh (n:Nat):Nat->List zav->Option (List UInt8)
 | _,[]=>some []
 | i,p::r=>if p.chunk.part=(i:Int)/\p.chunk.last=decide (i+1=n) then (zmh n (i+1) r).map (p.chunk.data++·) else none
def join (l:List zav):Option (List UInt8):=if l=[] then none else zmh l.length 0 (srt ck l)
def at_ (k:Nat) (p:zav):Bool:=decide (p.chunk.part=(k:Int))
def zib (l:List zav) (n:Nat):Nat->Nat->Option (List UInt8)
 | _,0=>some []
 | k,m+1=>match l.filter (at_ k) with
  | [p]=>if p.chunk.last=decide (k+1=n) then (zib l n (k+1) m).map (p.chunk.data++·) else none
  | _=>none
theorem filter_one {α:Type} {f:α->Bool} {l l':List α} (h:l.Perm l') (p:α):l.filter f=[p]↔l'.filter f=[p]:=by
 have:=h.filter f
 constructor
 . intro e;rw [e] at this;exact List.perm_singleton.1 this.symm
 . intro e;rw [e] at this;exact List.perm_singleton.1 this
theorem yvw {l l':List zav} (h:l.Perm l') (n:Nat):∀ (m k:Nat),zib l n k m=zib l' n k m
 | 0,k=>rfl
 | m+1,k=>by
  have hf:=fun p=>filter_one (f:=at_ k) h p
  rw [zib,zib];split
  . rename_i p hp
    rw [(hf p).1 hp,yvw h n m (k+1)]
  . rename_i hno
    split
    . rename_i p hp
      exact absurd ((hf p).2 hp) (hno p)
    . rfl
theorem yvx {l:List zav} {n:Nat}:∀ {m k:Nat} {b:List UInt8},zib l n k m=some b->∀ i,k<=i->i<k+m->∃ p∈l,p.chunk.part=(i:Int)
 | 0,k,b,_,i,h1,h2=>by omega
 | m+1,k,b,h,i,h1,h2=>by
  rw [zib] at h;split at h
  . rename_i p hp
    split at h
    . obtain ⟨c,hc,-⟩:=zy29.1 h
      by_cases he:i=k
      . subst he
        have:p∈l.filter (at_ i):=by rw [hp];simp
        rw [zy138] at this;exact ⟨p,this.1,by simpa [at_] using this.2⟩
      . exact yvx hc i zz0 zz0
    . cases h
  . cases h
def yum (l:List zav) (k:Nat):Nat:=l.countP fun p=>decide (p.chunk.part<(k:Int))
def xfw (l:List zav) (k:Nat):Nat:=l.countP fun p=>decide ((k:Int)<=p.chunk.part)
theorem yzi (l:List zav) (k:Nat):yum l k+xfw l k=l.length:=by
 induction l with
 | nil=>rfl
 | cons p l ih =>
  simp only [yum,xfw,zy149,zy6] at *
  by_cases h:p.chunk.part<(k:Int)
  . have h2:¬ (k:Int)<=p.chunk.part:=by omega
    simp [h,h2];omega
  . have h2:(k:Int)<=p.chunk.part:=by omega
    simp [h,h2];omega
theorem yni {l:List zav} {k:Nat} (h:∃ p∈l,p.chunk.part=(k:Int)):yum l k+1<=yum l (k+1):=by
 induction l with
 | nil=>simp at h
 | cons p l ih =>
  have mono:∀ l:List zav,l.countP (fun p=>decide (p.chunk.part<(k:Int)))<=l.countP (fun p=>decide (p.chunk.part<((k+1:Nat):Int))):=fun l=>List.countP_mono_left fun x _ hx=>by simp at hx ⊢;omega
  simp only [yum,zy149] at ih ⊢;by_cases he:p.chunk.part=(k:Int)
  . have:=mono l
    have h2:¬ p.chunk.part<(k:Int):=by omega
    have h3:p.chunk.part<((k+1:Nat):Int):=by omega
    rw [zy0 (by simpa using h2),zy1 (zy10 h3)];omega
  . have:∃ p∈l,p.chunk.part=(k:Int):=by
     obtain ⟨q,hq,e⟩:=h;rcases zy13.1 hq with rfl | hq
     . exact absurd e he
     . exact ⟨q,hq,e⟩
    have:=ih this;by_cases h2:p.chunk.part<(k:Int)
    . have h3:p.chunk.part<((k+1:Nat):Int):=by omega
      rw [zy1 (zy10 h2),zy1 (zy10 h3)];omega
    . have h3:¬ p.chunk.part<((k+1:Nat):Int):=by omega
      rw [zy0 (by simpa using h2),zy0 (fun h=>h3 (zy24 h))];omega
theorem xbt {l:List zav} {n:Nat} (h:∀ i,i<n->∃ p∈l,p.chunk.part=(i:Int)):∀ k,k<=n->k<=yum l k
 | 0,_=>zy107 _
 | k+1,hk=>by have:=xbt h k zz0;have:=yni (h k zz0);omega
theorem xbu {l:List zav} {n:Nat} (hn:l.length=n) (h:∀ i,i<n->∃ p∈l,p.chunk.part=(i:Int)):∀ j,j<=n->yum l (n-j)<=n-j
 | 0,_=>by have:=yzi l n;simp only [Nat.sub_zero];omega
 | j+1,hj=>by
  have h1:=xbu hn h j zz0;have h2:=yni (h (n-(j+1)) zz0);rw [show n-(j+1)+1=n-j by omega] at h2;omega
theorem yby:∀ {S:List zav} (_:Sd ck S) (k:Nat) (i:Nat) (hi:i<S.length),(S[i].chunk.part<(k:Int)↔i<yum S k)
 | x::S,h,k,0,hi=>by
  simp only [yum,zy149,List.getElem_cons_zero];by_cases hx:x.chunk.part<(k:Int)
  . simp [hx]
  . have:S.countP (fun p=>decide (p.chunk.part<(k:Int)))=0:=List.countP_eq_zero.2 fun y hy=>by have:=h.1 y hy;simp;simp only [ck] at this;omega
    simp [hx,this]
 | x::S,h,k,i+1,hi=>by
  have ih:=yby h.2 k i (by simpa using hi);simp only [yum,zy149,List.getElem_cons_succ] at *
  by_cases hx:x.chunk.part<(k:Int)
  . simp [hx];exact ih
  . have:S.countP (fun p=>decide (p.chunk.part<(k:Int)))=0:=List.countP_eq_zero.2 fun y hy=>by have:=h.1 y hy;simp;simp only [ck] at this;omega
    rw [this] at ih ⊢;simp [hx];omega
theorem yin {S:List zav} (hs:Sd ck S) (h:∀ i,i<S.length->∃ p∈S,p.chunk.part=(i:Int)) (i:Nat) (hi:i<S.length):S[i].chunk.part=(i:Int):=by
 have e:∀ k,k<=S.length->yum S k=k:=fun k hk=>by
  have h1:=xbt h k hk;have h2:=xbu rfl h (S.length-k) zz0;rw [show S.length-(S.length-k)=k by omega] at h2;omega
 have h1:=yby hs i i hi;have h2:=yby hs (i+1) i hi;rw [e i (by omega)] at h1;rw [e (i+1) (by omega)] at h2;omega
def zxp (i:Nat):List zav->Prop
 | []=>True
 | p::r=>p.chunk.part=(i:Int)/\zxp (i+1) r
theorem yfg:∀ {S:List zav} {i:Nat},(∀ j (hj:j<S.length),S[j].chunk.part=((i+j:Nat):Int))->zxp i S
 | [],_,_=>trivial
 | p::r,i,h=>⟨by have:=h 0 zz5;simp only [List.getElem_cons_zero,zy89] at this;exact this,yfg fun j hj=>by have:=h (j+1) zz126;rw [List.getElem_cons_succ] at this;rw [this];congr 1;omega⟩
theorem yff:∀ {S:List zav} {i:Nat},zxp i S->∀ p∈S,(i:Int)<=p.chunk.part
 | q::r,i,h,p,hp=>by
  rcases zy13.1 hp with rfl | hp
  . rw [h.1];omega
  . have:=yff h.2 p hp;omega
theorem zyl {n:Nat}:∀ {S:List zav} {i:Nat} {b:List UInt8},zmh n i S=some b->zxp i S
 | [],_,_,_=>trivial
 | p::r,i,b,h=>by
  rw [zmh] at h;split at h
  . rename_i c
    obtain ⟨d,hd,-⟩:=zy29.1 h;exact ⟨c.1,zyl hd⟩
  . cases h
theorem filter_none {A:List zav} {k:Nat} (h:∀ p∈A,p.chunk.part≠(k:Int)):A.filter (at_ k)=[] :=
 zy147.2 fun p hp=>by simpa [at_] using h p hp
theorem ykk {S:List zav} {n:Nat}:∀ {B A:List zav} {i:Nat},S=A++B->(∀ p∈A,p.chunk.part<(i:Int))->zxp i B->zib S n i B.length=zmh n i B
 | [],A,i,_,_,_=>rfl
 | p::B,A,i,hS,hA,hB=>by
  have hf:S.filter (at_ i)=[p]:=by
   rw [hS,zy42,filter_none fun q hq=>by have:=hA q hq;omega,zy49,zy1 (by simpa [at_] using hB.1),filter_none fun q hq=>by have:=yff hB.2 q hq;omega]
   rfl
  rw [zy6,zib,hf];have ih:=ykk (S:=S) (n:=n) (B:=B) (A:=A++[p]) (i:=i+1) (by rw [hS];simp) (fun q hq=>by
   rcases zy20.1 hq with hq | hq
   . have:=hA q hq;omega
   . rw [zy25.1 hq,hB.1];omega) hB.2
  dsimp only;rw [ih,zmh];by_cases c:p.chunk.last=decide (i+1=n)
  . rw [zy1 c,zy1 ⟨hB.1,c⟩]
  . rw [zy0 c,zy0 fun h=>c h.2]
theorem xht (l:List zav):zib l l.length 0 l.length=zmh l.length 0 (srt ck l):=by
 have hl:=zkp (key:=ck) l;rw [yvw (zql (key:=ck) (l:=l)).symm];have hs:=ztf (key:=ck) (l:=l);generalize srt ck l=S at *
 rw [<- hl];clear hl;cases hr:zib S S.length 0 S.length with
 | some b =>
  have:=yin hs fun i hi=>yvx hr i zz0 zz0
  have ht:zxp 0 S:=yfg fun j hj=>by rw [this j hj];simp
  rw [<- hr];exact ykk (A:=[]) rfl zz5 ht
 | none =>
  cases hj:zmh S.length 0 S with
  | none=>rfl
  | some b =>
   have:=ykk (S:=S) (n:=S.length) (A:=[]) rfl zz5 (zyl hj);rw [hr,hj] at this;cases this
def tot (l:List zav):Nat:=(l.map fun p=>p.chunk.data.length).sum
theorem yop {l l':List zav} (h:l.Perm l'):tot l=tot l':=(h.map _).sum_nat
theorem zff (p:zav) (l:List zav):tot (p::l)=p.chunk.data.length+tot l:=rfl
theorem zmr (a b:List zav):tot (a++b)=tot a+tot b:=by simp [tot]
theorem yxo {l:List zav} {p:zav} (h:p∈l):p.chunk.data.length<=tot l:=by
 induction l with
 | nil=>cases h
 | cons q l ih =>
  rw [zff];rcases zy13.1 h with rfl | h
  . omega
  . have:=ih h;omega
def cat (l:List zav):List UInt8:=(l.map fun p=>p.chunk.data).flatten
theorem ylq (l:List zav) (p:zav):cat (l++[p])=cat l++p.chunk.data:=by simp [cat]
theorem xct (l:List zav):(cat l).length=tot l:=by induction l with
 | nil=>rfl
 | cons p l ih=>rw [zff,<- ih];simp [cat]
abbrev pieces (l:List zav):HV:=.p (.sl 12 (l.map zav.row))
theorem zzk (n:Int):zan Tryz.prog 214 [i64 n] zad (zbj false) zad:=by
 refine zal mixed Tryz.func214 zz4 ?_;(conv=>whnf);simp
theorem yhf (a b:Int):zan Tryz.prog 209 [i64 a,i64 b] zad (i64 (if a<b then -1 else if a>b then 1 else 0)) zad:=by
 refine zal mixed Tryz.func209 zz4 ?_;(conv=>whnf)
 (refine cL ?_;refine dL (zzk a) ?_)
 (refine cL ?_;refine dL (zzk b) ?_)
 by_cases c:a<b
 . rw [zy1 c]
   ((refine ypq ?_;conv=>whnf);try refine sG ?_)
 rw [zy0 c];refine sN ?_;by_cases c2:a>b
 . rw [zy1 c2]
   ((refine ypq ?_;conv=>whnf);try refine sG ?_)
 rw [zy0 c2]
 ((refine yyn ?_;conv=>whnf);try refine sG ?_)
theorem yci:ydk 208:=fun a b=>by
 refine zal mixed Tryz.func208 zz4 ?_;(conv=>whnf)
 (refine cL ?_;refine dL (yhf a.chunk.part b.chunk.part) ?_)
 rfl
theorem ycx {x:HV} {a b:Bool} (h:a=b):HV.tup [x,zbj a]=HV.tup [x,zbj b]:=by rw [h]
theorem yds (l:List zav) (hb:l.length<2 ^ 39):zan Tryz.prog 206 [.p (.sl 12 (l.map zav.row))] zad (.own 0) (lk .free [(0,.live (.row 162 12 (l.map zav.row)))]):=by
 refine zap mixed Tryz.func206 zz4 [] (fun _=>.inl rfl) ?_;(conv=>whnf);intro b hn;(conv=>whnf);refine zaf (fun c=>?_) (fun c=>?_)
 . conv=>whnf
   exact yy24
 . conv=>whnf
   refine zaa (c:=(([]:List (List PV)).length+(l.map zav.row).length)*136<=140737488355328) zz3 ?_;exact yy19
theorem ywq (l:List zav) (hb:l.length<2 ^ 38) (ht:tot l<2 ^ 40) :
 zan Tryz.prog 200 [pieces l] zad (.tup [.own 0,zbj (join l).isSome]) (lk .free [(0,.live (.row 5 1 (((join l).getD []).map zcp)))]):=by
 refine zap mixed Tryz.func200 zz4 [] (fun _=>.inl rfl) ?_;(conv=>whnf)
 (refine zat [(0,9)] ?_;(conv=>whnf);refine dO (yds l zz0) ?_)
 (refine zae [] [(1000,9)] [] ?_;(conv=>whnf);refine dG (yxf yci l zz0) ?_)
 have hl:=zkp (key:=ck) l;have ht2:tot (srt ck l)<2 ^ 40:=by rw [yop zql];exact ht
 obtain ⟨S,hS⟩:∃ S,S=srt ck l:=⟨_,rfl⟩
 have hj:join l=if l=[] then none else zmh S.length 0 S:=by rw [join,<- hS,<- hl,hS]
 rw [<- hS] at hl ht2;refine ⟨{x:List zav×List zav // S=x.1++x.2/\zmh S.length 0 S=(zmh S.length x.1.length x.2).map (cat x.1++·)},fun | ⟨(A,B),_⟩=>hs 45 [(4,.own 900),(5,.own 901),(12,.own 900),(13,i64 S.length),(14,i64 A.length)] [(900,.live (.row 162 12 (S.map zav.row))),(901,.live (.row 5 1 ((cat A).map zcp)))],fun x=>x.1.2.length,⟨([],S),rfl,by simp [cat]⟩,?_,?_⟩
 . exact (zaz [(900,some 9),(901,none)] (by repeat' (first | exact z0 | refine z1 ?_ | refine ⟨?_,?_⟩ | ((exact zbk (by rw [zy2,hS]))) | ((exact zar (by rw [hS]))) | exact z2)))
 rintro ⟨⟨A,B⟩,h,hr⟩;dsimp only at h hr;have hAB:S.length=A.length+B.length:=by rw [h];simp
 have htA:tot S=tot A+tot B:=by rw [h,zmr]
 (conv=>whnf);cases B with
 | nil =>
  rw [zy12] at hAB;rw [zmh] at hr;have hcat:zmh S.length 0 S=some (cat A):=by rw [hr];simp
  have h0:tot []=0:=rfl;refine sN ?_;by_cases hln:l=[]
  . subst hln
    have hl0:S.length=0:=hl;have:A=[]:=zy14 zz0;subst this;refine zao [(0,some 901)] rfl rfl trivial rfl (ycx ?_) ⟨⟨rfl,.inl ⟨901,rfl,rfl⟩⟩,trivial⟩;rw [zy2,hl0];rfl
  . have:=zy34.2 hln
    have hjv:join l=some (cat A):=by rw [hj,zy0 hln,hcat]
    rw [hjv];refine zao [(0,some 901)] rfl rfl trivial rfl (ycx ?_) ⟨⟨rfl,.inl ⟨901,rfl,rfl⟩⟩,trivial⟩;simp;omega
 | cons p B =>
  rw [zy6] at hAB;rw [zff] at htA;rw [zmh] at hr;have hca:=xct A;have hln:l≠[]:=fun h=>by subst h;have hl0:S.length=0:=hl;omega
  rw [zy0 hln] at hj;refine sT ?_;refine sO ?_;refine zaj h zz5 (zw ?_);have e:((A.length:Int)==((S.map zav.row).length:Int)-1)=decide (A.length+1=S.length):=by
   rw [zy2,zy110];simp;omega
  by_cases c1:p.chunk.part=(A.length:Int)
  . refine zab zz145 (zw ?_)
    refine sF ?_;by_cases c2:p.chunk.last=decide (A.length+1=S.length)
    . rw [zy1 ⟨c1,c2⟩] at hr
      refine zab (by rw [e,c2];simp) (zw ?_)
      try refine sG ?_
      refine zaa (c:=(((cat A).map zcp).length+(p.chunk.data.map zcp).length)*1<=140737488355328) zz3 (zw ?_)
      try refine sG ?_
      refine sF ?_;refine ⟨⟨(A++[p],B),by rw [h];simp,by dsimp only;rw [hr,Option.map_map,zy8,zy62];congr 1;funext x;simp [ylq]⟩,(zaz [(900,some 900),(901,some 39)] (by repeat' (first | exact z0 | refine z1 ?_ | refine ⟨?_,?_⟩ | ((exact zar (by rw [ylq];simp))) | exact z2))),by simp⟩
    . rw [zy0 fun h=>c2 h.2] at hr
      have hjv:join l=none:=by rw [hj,hr];rfl
      refine zac (by rw [e];cases hp:p.chunk.last<;>cases hd:decide (A.length+1=S.length)<;>simp_all) (zw ?_);exact yy37
  . rw [zy0 fun h=>c1 h.1] at hr
    have hjv:join l=none:=by rw [hj,hr];rfl
    refine zac zz39 ?_;conv=>whnf
    exact yy37
def Found (k:Nat) (a:List zav) (z:Int):Prop:=(a.filter (at_ k)=[]/\z=-1)\/∃ a1 p a2,a=a1++p::a2/\z=(a1.length:Nat)/\a.filter (at_ k)=[p]
theorem yqy (l:List zav) (hb:l.length<2 ^ 22) (ht:tot l<2 ^ 22) :
 zan Tryz.prog 193 [pieces l] zad (.tup [.own 0,zbj (join l).isSome]) (lk .free [(0,.live (.row 5 1 (((join l).getD []).map zcp)))]):=by
 refine zap mixed Tryz.func193 zz4 [] (fun _=>.inl rfl) ?_;have hj:join l=if l=[] then none else zib l l.length 0 l.length:=by rw [join,xht]
 (conv=>whnf);refine ⟨{x:Nat×Nat×List UInt8 // x.1+x.2.1=l.length/\zib l l.length 0 l.length=(zib l l.length x.1 x.2.1).map (x.2.2++·)/\x.2.2.length<=x.1*4194304},fun | ⟨(k,m,acc),_⟩=>hs 59 [(0,pieces l),(4,.own 900),(10,i64 l.length),(11,i64 k)] [(900,.live (.row 5 1 (acc.map zcp)))],fun x=>x.1.2.1,⟨(0,l.length,[]),by simp,by simp,by simp⟩,?_,?_⟩
 . exact (zbi [(900,none)])
 rintro ⟨⟨k,m,acc⟩,h1,h2,h3⟩;dsimp only at h1 h2 h3;(conv=>whnf);cases m with
 | zero =>
  rw [zib] at h2;refine sN ?_;by_cases hln:l=[]
  . subst hln
    have:acc=[]:=zy14 (by have:k=0:=h1;omega);subst this;refine zao [(0,some 900)] rfl rfl trivial rfl (ycx ?_) ⟨⟨rfl,.inl ⟨900,rfl,rfl⟩⟩,trivial⟩
    rfl
  . have:=zy34.2 hln
    have hjv:join l=some acc:=by rw [hj,zy0 hln,h2];simp
    rw [hjv];refine zao [(0,some 900)] rfl rfl trivial rfl (ycx ?_) ⟨⟨rfl,.inl ⟨900,rfl,rfl⟩⟩,trivial⟩;simp;omega
 | succ m =>
  have hln:l≠[]:=fun h=>by subst h;have h1:k+(m+1)=0:=h1;omega
  rw [zy0 hln] at hj;rw [zib] at h2;refine sT ?_;refine ⟨{x:(List zav×List zav)×Int // l=x.1.1++x.1.2/\Found k x.1.1 x.2},fun | ⟨((a,b),z),_⟩=>hs 59 [(0,pieces l),(4,.own 900),(5,i64 k),(6,i64 z),(10,i64 l.length),(11,i64 k),(14,pieces l),(15,i64 l.length),(16,i64 a.length)] [(900,.live (.row 5 1 (acc.map zcp)))],fun x=>x.1.1.2.length,⟨(([],l),-1),rfl,.inl ⟨rfl,rfl⟩⟩,?_,?_⟩
  . exact (zbi [(900,some 900)])
  rintro ⟨⟨⟨a,b⟩,z⟩,g1,g2⟩;dsimp only at g1 g2;have hl:l.length=a.length+b.length:=by rw [g1];simp
  (conv=>whnf);cases b with
  | cons p b =>
   rw [zy6] at hl;refine sT ?_;refine zaj g1 zz5 (zw ?_);by_cases c:p.chunk.part=(k:Int)
   . have hat:at_ k p=true:=by simpa [at_] using c
     refine zac zz69 (zw ?_)
     try refine sG ?_
     rcases g2 with ⟨f1,rfl⟩ | ⟨a1,q,a2,f1,rfl,f2⟩
     . conv=>whnf
       try refine sG ?_
       refine sF ?_;exact ⟨⟨((a++[p],b),(a.length:Nat)),by rw [g1];simp,.inr ⟨a,p,[],by simp,rfl,by rw [zy42,f1,zy49,zy1 hat];rfl⟩⟩,(zbi [(900,some 900)]),by simp⟩
     . have hjv:join l=none:=by
        rw [hj,h2,g1,zy42,f2,zy49,zy1 hat];rfl
       (conv=>whnf);exact yy37
   . have hat:¬ at_ k p=true:=by simpa [at_] using c
     refine zab zz69 (zw ?_)
     try refine sG ?_
     refine sF ?_;refine ⟨⟨((a++[p],b),z),by rw [g1];simp,?_⟩,(zbi [(900,some 900)]),by simp⟩;rcases g2 with ⟨f1,f0⟩ | ⟨a1,q,a2,f1,f0,f2⟩
     . exact .inl ⟨by rw [zy42,f1,zy49,zy0 hat];rfl,f0⟩
     . exact .inr ⟨a1,q,a2++[p],by rw [f1];simp,f0,by rw [zy42,f2,zy49,zy0 hat];rfl⟩
  | nil =>
   rw [zy12] at hl;rw [zy4] at g1;refine sN ?_;rcases g2 with ⟨f1,rfl⟩ | ⟨a1,q,a2,f1,rfl,f2⟩
   . have hjv:join l=none:=by rw [hj,h2,g1,f1];rfl
     (conv=>whnf);exact yy37
   . have hq:q.chunk.data.length<=tot l:=yxo (by rw [g1,f1];simp)
     have e:((k:Int)==((l.map zav.row).length:Int)-1)=decide (k+1=l.length):=by
      rw [zy2,zy110];simp;omega
     rw [g1,f2] at h2;dsimp only at h2;rw [<- g1] at h2;(conv=>whnf);refine zaj (show l=a1++q::a2 by rw [g1,f1]) rfl (zw ?_);refine sF ?_;by_cases c2:q.chunk.last=decide (k+1=l.length)
     . rw [zy1 c2] at h2
       refine zab (by rw [e,c2];simp) (zw ?_)
       try refine sG ?_
       refine zaj (show l=a1++q::a2 by rw [g1,f1]) rfl (zw ?_);refine zaa (c:=((acc.map zcp).length+(q.chunk.data.map zcp).length)*1<=140737488355328) zz3 (zw ?_)
       try refine sG ?_
       refine sF ?_;refine ⟨⟨(k+1,m,acc++q.chunk.data),by dsimp only;omega,by dsimp only;rw [h2,Option.map_map];congr 1;funext x;simp,by simp;omega⟩,(zaz [(900,some 53)] zz92),by simp⟩
     . rw [zy0 c2] at h2
       have hjv:join l=none:=by rw [hj,h2];rfl
       refine zac (by rw [e];cases hp:q.chunk.last<;>cases hd:decide (k+1=l.length)<;>simp_all) (zw ?_);exact yy37
end Jn
end Go.HL
