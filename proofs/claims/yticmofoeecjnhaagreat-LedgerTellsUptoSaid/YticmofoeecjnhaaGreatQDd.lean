/- Walks, contracts and laws of the law's functions: part 4. No condition. -/
import Derived.Test.YticmofoeecjnhaaGreatQDc
open Go.Proofs
set_option maxHeartbeats 32000000
set_option maxRecDepth 100000
set_option linter.unusedSimpArgs false
theorem yy78 {P:Prop} (h:P:=by
 refine zaq mixed Tryz.func130 zz4 [1000,1001,1002,1003,1004,1005,1006,1007] zbq ?_;(conv=>whnf);by_cases c1:life>0
 . refine sT ?_
   refine sR ?_
   try refine sT ?_
   (exact zcx (pK8 []) zz16)
 . refine sN ?_
   try refine sN ?_
   (exact zcx (pK8 []) zz16)):P:=h
theorem yy114 {P:Prop} (h:P:=by
 (conv=>whnf);refine zap [(1000,some 1000),(0,some 7)] rfl rfl ⟨rfl,trivial⟩ rfl rfl ⟨⟨rfl,.inl ⟨1000,rfl,rfl⟩⟩,⟨rfl,.inl ⟨7,rfl,?_⟩⟩,trivial⟩
 rfl):P:=h
theorem yy124 {P:Prop} (h:P:=by
 refine zap [(1000,some 1000),(0,none)] rfl rfl ⟨rfl,trivial⟩ rfl rfl ⟨⟨rfl,.inl ⟨1000,rfl,rfl⟩⟩,⟨rfl,.inr ⟨rfl,hn c⟩⟩,trivial⟩):P:=h
theorem yy34 {P:Prop} (h:P:=by
 rintro ⟨⟨A,B⟩,h⟩;dsimp only at h;(conv=>whnf);cases B with
 | cons p B =>
  have hz:=zay h;refine sT ?_
  (refine cL ?_;refine dL (Sco.zoy s.out A.length h3) ?_)
  refine sOm ?_;refine zaj (a:=A.mapIdx (flP s.out)) (b:=B) (s:=p) rfl zz5 (zw ?_);refine sD ?_;refine sF ?_;exact ⟨⟨(A++[p],B),zae h⟩,(zcc (pK8 []) zz49),by simp⟩
 | nil =>
  have hz:=zbk h;rw [zy5] at h;refine sN ?_
  (exact zcx (pK8 [(0,some 1001),(1,some 1002),(2,some 1003),(3,some 1004),(4,some 1005),(5,some 1006)]) zz47)):P:=h
theorem yy14 {P:Prop} (h:P:=by
 have hz:=zay k1;have zcq:(A++[m]).foldl (zfb id) {s with fates:=s.fates.set id 3}=zfb id (zkg s id o n) m:=by rw [zy59,k2];rfl
 refine sT ?_;refine zaa (by simp [zkg];omega) (zw ?_);refine zaj k1 rfl (zw ?_);by_cases c1:m.id=id
 case neg =>
  refine zab zz39 (zw ?_)
  repeat refine sG ?_
  refine sF ?_;rw [zfb,zy0 (by intro h;exact c1 h.1)] at zcq;exact ⟨⟨((A++[m],B),o,n),zae k1,zcq,by simp;omega,k4⟩,(zdj (pK8 ((900,some 900)::[(3,some 3)]))),by simp⟩
 refine zac zz39 ?_;conv=>whnf
 by_cases c2:m.parts>0
 case neg =>
  refine zab zz29 (zw ?_)
  repeat refine sG ?_
  refine sF ?_;rw [zfb,zy0 (by intro h;exact c2 h.2)] at zcq;exact ⟨⟨((A++[m],B),o,n),zae k1,zcq,by simp;omega,k4⟩,(zdj (pK8 ((900,some 900)::[(3,some 3)]))),by simp⟩
 refine zac zz29 ?_;conv=>whnf
 repeat refine sG ?_
 rw [zfb,zy1 ⟨c1,c2⟩] at zcq
 (refine cL ?_;refine dL (zdl n) ?_)
 (refine cL ?_;refine dL (zdl m.mid) ?_)
 refine zaa (c:=((o.map zbo.row).length+1)*200<=140737488355328) zz6 (zw ?_);refine sD ?_;refine sR ?_;refine sF ?_;refine ⟨⟨((A++[m],B),o++[zpp n m],W (n+1)),zae k1,zcq,by simp;omega,by rw [Sco.zhu,k4];simp [Sco.total,zpp]⟩,(zcc (pK8 ((900,some 64)::[(3,some 3)])) zz68),by simp⟩):P:=h
theorem yy61 {P:Prop} (h:P:=by
 (exact zcx (pK8 [(0,some 910),(1,some 911),(2,some 912),(3,some 913),(4,some 914),(5,some 915)]) zz17)):P:=h
theorem yy68 {P:Prop} (h:P:=by
 refine sOm ?_;refine zam hv zz0 (zw ?_);refine zam hk rfl (zw ?_);refine sOm ?_;refine zam hv zz0 (zw ?_);refine sR ?_;refine sOm ?_;refine zam hv zz0 (zw ?_)
 repeat refine sG ?_
 refine zcg rfl zz3 (zw ?_);have hms2:(zix s k m).mids=_:=hms;rw [hat] at hms2
 (exact zcx (pK9 []) zz19)):P:=h
theorem yy69 {P:Prop} (h:P:=by
 refine sOm ?_;refine zam hv zz0 (zw ?_);refine zam hk rfl (zw ?_);refine sOm ?_;refine zam hv zz0 (zw ?_);refine sR ?_;refine sOm ?_;refine zam hv zz0 (zw ?_)
 repeat refine sG ?_
 refine zcg rfl zz3 (zw ?_);have hms2:(zix s k m).mids=_:=hms;rw [hat] at hms2
 (exact zcx (zic []) zz19)):P:=h
theorem yy6 {P:Prop} (h:P:=by
 cases d3:old u.clock x.came x.life with
 | true =>
  (conv=>whnf);refine sD ?_
  repeat refine sG ?_
  (refine zaf [] [(1000,1000),(1001,900),(1002,901),(1003,902),(1004,903),(1005,904),(1006,905),(1007,1007)] [(0,910),(1,911),(2,912),(3,913),(4,914),(5,915)] ?_;(conv=>whnf);refine dG pg ?_)
  refine sF ?_;refine hQ _ _ ?_;conv=>whnf
  rw [zhd,zy1 (by rw [hdue];simp [d1,d2,d3])] at zcq kn kr;exact ⟨⟨((A++[x],B),zfc u x.id),zae k1,zcq,kn,k4.trans kr⟩,(zdj (pK8 ((900,some 910)::(901,some 911)::(902,some 912)::(903,some 913)::(904,some 914)::(905,some 915)::[(34,some 34)]))),by simp⟩
 | false =>
 (conv=>whnf);by_cases d4:x.state=3
 case neg =>
  refine zab ?_ ?_
  . simpa using d4
  (conv=>whnf);refine sD ?_
  repeat refine sG ?_
  refine sF ?_;refine hQ _ _ ?_;conv=>whnf
  rw [zhd,zy0 (by rw [hdue];simp [d1,d2,d3,d4])] at zcq;exact ⟨⟨((A++[x],B),u),zae k1,zcq,k3,k4⟩,(zdj (pK8 (pJ6 [(34,some 34)]))),by simp⟩
 refine zac ?_ ?_
 . simpa using d4
 (conv=>whnf);by_cases d5:x.tries>0
 case neg =>
  refine zab ?_ ?_
  . simpa using d5
  (conv=>whnf);refine sD ?_
  repeat refine sG ?_
  refine sF ?_;refine hQ _ _ ?_;conv=>whnf
  rw [zhd,zy0 (by rw [hdue];simp [d1,d2,d3,d4,d5])] at zcq;exact ⟨⟨((A++[x],B),u),zae k1,zcq,k3,k4⟩,(zdj (pK8 (pJ6 [(34,some 34)]))),by simp⟩
 refine zac ?_ ?_
 . simpa using d5
 (conv=>whnf);refine sD ?_;by_cases d6:x.times>x.tries
 case neg =>
  refine zab ?_ ?_
  . simpa using d6
  conv=>whnf
  repeat refine sG ?_
  refine sF ?_;refine hQ _ _ ?_;conv=>whnf
  rw [zhd,zy0 (by rw [hdue];simp [d1,d2,d3,d4,d5,d6])] at zcq;exact ⟨⟨((A++[x],B),u),zae k1,zcq,k3,k4⟩,(zdj (pK8 (pJ6 [(34,some 34)]))),by simp⟩
 refine zac ?_ ?_
 . simpa using d6
 conv=>whnf
 repeat refine sG ?_
 (refine zaf [] [(1000,1000),(1001,900),(1002,901),(1003,902),(1004,903),(1005,904),(1006,905),(1007,1007)] [(0,910),(1,911),(2,912),(3,913),(4,914),(5,915)] ?_;(conv=>whnf);refine dG pg ?_)
 refine sF ?_;refine hQ _ _ ?_;conv=>whnf
 rw [zhd,zy1 (by rw [hdue];simp [d1,d2,d3,d4,d5,d6])] at zcq kn kr;exact ⟨⟨((A++[x],B),zfc u x.id),zae k1,zcq,kn,k4.trans kr⟩,(zdj (pK8 ((900,some 910)::(901,some 911)::(902,some 912)::(903,some 913)::(904,some 914)::(905,some 915)::[(34,some 34)]))),by simp⟩):P:=h
theorem yy21 {P:Prop} (h:P:=by
 exact ⟨⟨((A++[x],B),u),zae k1,zcq,k3,k4⟩,(zdj (pK8 (pJ6 [(34,some 34)]))),by simp⟩):P:=h
theorem yy35 {P:Prop} (h:P:=by
 rw [<- hid] at pg;(conv=>whnf)
 repeat refine sG ?_
 (refine zaf [] [(1000,1000),(1001,900),(1002,901),(1003,902),(1004,903),(1005,904),(1006,905),(1007,1007)] [(0,910),(1,911),(2,912),(3,913),(4,914),(5,915)] ?_;(conv=>whnf);refine dG pg ?_)
 refine sF ?_;refine hQ _ _ ?_;conv=>whnf
 exact ⟨⟨((A++[m],B),zfc t m.id),zae k1,zcq,kn,k4.trans kr⟩,(zdj (pK8 ((900,some 910)::(901,some 911)::(902,some 912)::(903,some 913)::(904,some 914)::(905,some 915)::[(11,some 11)]))),by simp⟩):P:=h
theorem yy87 {P:Prop} (h:P:=by
 have hz:=zbk k1;rw [zy5] at k1;rw [<- k1] at k2;refine sN ?_;refine hQ _ _ ?_;conv=>whnf
 have hu:u=E:=by rw [<- k2,hE2]
 rw [<- hu]
 (exact zci (pK8 [(0,some 900),(1,some 901),(2,some 902),(3,some 903),(4,some 904),(5,some 905)]))):P:=h
theorem yy98 {P:Prop} (h:P:=by
 rw [zkx,zy0 (by rw [ho];decide)] at zcq;(conv=>whnf)
 repeat refine sG ?_
 refine sF ?_;refine hQ _ _ ?_;conv=>whnf
 exact ⟨⟨((A++[m],B),t),zae k1,zcq,k3,k4⟩,(zdj (pK8 (pJ6 [(11,some 11)]))),by simp⟩):P:=h
theorem yy131 {P:Prop} (h:P:=by
 refine zab ?_ ?_
 . simp [c1]
 (conv=>whnf);refine zac ?_ ?_
 . simp [c2]
 conv=>whnf
 repeat refine sG ?_
 (exact zci (pK8 [(0,none),(1,none)]))):P:=h
theorem yy152 {P:Prop} (h:P:=by
 refine zac ?_ ?_
 . simp [c1]
 conv=>whnf
 repeat refine sG ?_
 (exact zci (pK8 [(0,none),(1,none)]))):P:=h
theorem yy76 {P:Prop} (h:P:=by
 refine zab ?_ ?_
 . simpa using d1
 conv=>whnf
 repeat refine sG ?_
 refine sF ?_;exact ⟨⟨(i+1,t,a',b'),by dsimp only;omega,by rw [hst,hno fun h=>d1 h.1],k3,k4,by dsimp only;omega⟩,(zcc (zic [(900,some 900),(901,some 901)]) zz2),by dsimp only;omega⟩):P:=h
theorem yy77 {P:Prop} (h:P:=by
 refine zab ?_ ?_
 . simpa using d2
 conv=>whnf
 repeat refine sG ?_
 refine sF ?_;exact ⟨⟨(i+1,t,a',b'),by dsimp only;omega,by rw [hst,hno fun h=>d2 h.2],k3,k4,by dsimp only;omega⟩,(zcc (zic [(900,some 900),(901,some 901)]) zz2),by dsimp only;omega⟩):P:=h
theorem yy137 {P:Prop} (h:P:=by
 have hin:i=s.out.length:=by omega
 subst hin;refine sN ?_;rw [k2] at hag;subst hag
 (exact zci (zic [(0,some 900),(1,some 901)]))):P:=h
theorem yy2 {P:Prop} (h:P:=by
 refine zam hm rfl (zw ?_);refine zao (z:=m.sent+many s m) hWs (zw ?_);refine zam hm rfl (zw ?_);refine sD ?_;have hm':(zix s k m).queue[k]?=some {m with mid:=zdg s m}:=by show (s.queue.set k _)[k]?=_;rw [zy41 hkl]
 have hmr:(s.queue.map zak.row)[k]?=some m.row:=by rw [zy17,hm];rfl
 (refine cL ?_;refine dL (zdl s.next) ?_)
 refine zam hm rfl (zw ?_)
 (refine zaf [] [(1000,1000),(1001,1001),(1002,1002),(1003,1003),(1004,1004),(1005,1005),(1006,1006),(1007,1007),(1008,1008)] [] ?_;(conv=>whnf);refine dG (yia s a k m hm mf) ?_)
 (refine cL ?_;refine dL (zdl (zdg s m)) ?_)
 refine zam hm' rfl (zw ?_);refine zam hm' rfl (zw ?_);refine zam hm' rfl (zw ?_);refine zam hm' rfl (zw ?_);refine zam hm' rfl (zw ?_);refine zao (z:=m.sent+many s m) hWs (zw ?_);refine zaa (c:=0<=m.sent/\m.sent<=m.sent+many s m/\m.sent+many s m<=((m.message.data.map zco).length:Int)) ⟨ms,by omega,by rw [zy2];omega⟩ (zw ?_);refine zhf (o':=m.sent.toNat) (n':=(many s m).toNat) rfl (show (m.sent+many s m-m.sent).toNat=(many s m).toNat by rw [show m.sent+many s m-m.sent=many s m by omega]) ?_;refine zgh (f:=zco) (l:=m.message.data) (o:=m.sent.toNat) (n:=(many s m).toNat) zz0 ?_;(conv=>whnf)
 (refine zat [(0,150)]  ?_;(conv=>whnf);refine dO (Cl.zdc ((m.message.data.drop m.sent.toNat).take (many s m).toNat) zz3) ?_)
 refine zji [4,10,18,24,29,33,37] ?_ ?_ ?_
 . kernel_rfl
 . refine ⟨?_,?_,?_,?_,?_,?_,?_,trivial⟩
   all_goals
    refine And.intro trivial ?_;refine And.intro trivial ?_;refine And.intro ?_ trivial;(conv=>whnf);refine And.intro ?_ ?_
    . conv=>whnf
      all_goals first | rfl | exact zam hm rfl rfl
    refine And.intro ?_ trivial;(conv=>whnf)
    all_goals first | rfl | exact zam hm' rfl rfl
 (conv=>whnf);refine zam hm' rfl (zw ?_)
 (refine zat [(0,163)]  ?_;(conv=>whnf);refine dO (zkn s.sched {m with mid:=zdg s m} (many s m) (ovr s m) zz0 mf.lo mh) ?_)
 refine sD ?_;refine zam hm' rfl (zw ?_);refine zam hm' rfl (zw ?_);refine zam hm' rfl (zw ?_);refine zam hm' rfl (zw ?_);refine zaa (c:=((s.out.map zbo.row).length+1)*200<=140737488355328) zz6 (zw ?_);refine sD ?_;refine sR ?_;refine zam hm' rfl (zw ?_);refine zao (z:=m.sent+many s m) hWs (zw ?_);refine zam hm' rfl (zw ?_);refine zcg rfl zz69 (zw ?_);refine sR ?_;refine zcg rfl zz69 (zw ?_);refine zbv (z':=(s.out.length:Int)) ?_ ?_
 . show W ((((zix s k m).out.map zbo.row++[_]).length:Int)-1)=_
   rw [zy10,zy2,show (zix s k m).out=s.out from rfl,zbt (by simp only [zy6,zy12];omega) (by simp only [zy6,zy12];omega)];simp only [zy6,zy12];omega
 (conv=>whnf);refine zaa zz12 (zw ?_)
 (refine zaf [] [(1000,1000),(1001,1001),(1002,163),(1003,199),(1004,1004),(1005,1005),(1006,1006),(1007,1007),(1008,1008)] [(0,920)] ?_;(conv=>whnf);refine dG (zoz (s2 s k m) a s.out.length (x0 s m) w zz139 hw zz0) ?_ ⟨rfl,rfl,rfl,⟨zz1,⟨⟨rfl,_,rfl,.inl ⟨rfl,yra⟩⟩,⟨zz1,⟨⟨rfl,_,rfl,.inl ⟨rfl,(zbc (f:=zbo.row) (x:=x0 s m) rfl rfl)⟩⟩,⟨zz1,⟨zz1,⟨zz1,⟨zz1,⟨zz1,trivial⟩⟩⟩⟩⟩⟩⟩⟩⟩,⟨⟨rfl,rfl⟩,trivial⟩,rfl,rfl,rfl⟩)
 refine sD ?_;cases hov:ovr s m with
 | true =>
  refine zac ?_ ?_
  . exact hov
  conv=>whnf
  repeat refine sG ?_
  refine zbv (z':=((k+1:Nat):Int)) ?_ ?_
  . show W ((k:Int)+1)=_
    rw [zbt (by omega) (by omega)];push_cast;rfl
  conv=>whnf
  (refine zaf [] [(1000,1001)] [(0,930)] ?_;(conv=>whnf);refine dG (xfv (s.queue.set k (m2 s m)) k (k+1) zz0 zz3 zz3) ?_)
  rw [zfx hc0 hw rfl,zy1 hov] at hG;subst hG
  (exact zcx (pK9 [(0,some 930),(1,some 163),(2,some 199),(3,some 1004),(4,some 1005),(5,some 1006),(6,some 920)]) zz18)
 | false =>
  refine zab ?_ ?_
  . exact hov
  conv=>whnf
  repeat refine sG ?_
  rw [zfx hc0 hw rfl,zy0 (by rw [hov];decide)] at hG;subst hG
  (exact zci (pK9 [(0,some 1001),(1,some 163),(2,some 199),(3,some 1004),(4,some 1005),(5,some 1006),(6,some 920)]))):P:=h
theorem yy39 {P:Prop} (h:P:=by
 subst hG
 repeat refine sG ?_
 (exact zci (pK9 [(0,some 1001),(1,some 1002),(2,some 1003),(3,some 1004),(4,some 1005),(5,some 1006),(6,some 1008)]))):P:=h
theorem yy0 {P:Prop} (h:P:=by
 refine zam hm rfl (zw ?_);refine zao (z:=m.sent+many s m) hWs (zw ?_);refine zam hm rfl (zw ?_);refine sD ?_;have hm':(zix s k m).queue[k]?=some {m with mid:=zdg s m}:=by show (s.queue.set k _)[k]?=_;rw [zy41 hkl]
 have hmr:(s.queue.map zak.row)[k]?=some m.row:=by rw [zy17,hm];rfl
 (refine cL ?_;refine dL (zdl s.next) ?_)
 refine zam hm rfl (zw ?_)
 (refine zaf [] [(1000,1000),(1001,1001),(1002,1002),(1003,1003),(1004,1004),(1005,1005),(1006,1006),(1007,1007),(1008,1008),(1009,1009)] [] ?_;(conv=>whnf);refine dG (zqq s a b k m hm mf) ?_)
 (refine cL ?_;refine dL (zdl (zdg s m)) ?_)
 refine zam hm' rfl (zw ?_);refine zam hm' rfl (zw ?_);refine zam hm' rfl (zw ?_);refine zam hm' rfl (zw ?_);refine zam hm' rfl (zw ?_);refine zao (z:=m.sent+many s m) hWs (zw ?_);refine zaa (c:=0<=m.sent/\m.sent<=m.sent+many s m/\m.sent+many s m<=((m.message.data.map zco).length:Int)) ⟨ms,by omega,by rw [zy2];omega⟩ (zw ?_);refine zhf (o':=m.sent.toNat) (n':=(many s m).toNat) rfl (show (m.sent+many s m-m.sent).toNat=(many s m).toNat by rw [show m.sent+many s m-m.sent=many s m by omega]) ?_;refine zgh (f:=zco) (l:=m.message.data) (o:=m.sent.toNat) (n:=(many s m).toNat) zz0 ?_;(conv=>whnf)
 (refine zat [(0,150)]  ?_;(conv=>whnf);refine dO (Cl.zdc ((m.message.data.drop m.sent.toNat).take (many s m).toNat) zz3) ?_)
 refine zji [4,10,18,24,29,33,37] ?_ ?_ ?_
 . kernel_rfl
 . refine ⟨?_,?_,?_,?_,?_,?_,?_,trivial⟩
   all_goals
    refine And.intro trivial ?_;refine And.intro trivial ?_;refine And.intro ?_ trivial;(conv=>whnf);refine And.intro ?_ ?_
    . conv=>whnf
      all_goals first | rfl | exact zam hm rfl rfl
    refine And.intro ?_ trivial;(conv=>whnf)
    all_goals first | rfl | exact zam hm' rfl rfl
 (conv=>whnf);refine zam hm' rfl (zw ?_)
 (refine zat [(0,163)]  ?_;(conv=>whnf);refine dO (zkn s.sched {m with mid:=zdg s m} (many s m) (ovr s m) zz0 mf.lo mh) ?_)
 refine sD ?_;refine zam hm' rfl (zw ?_);refine zam hm' rfl (zw ?_);refine zam hm' rfl (zw ?_);refine zam hm' rfl (zw ?_);refine zaa (c:=((s.out.map zbo.row).length+1)*200<=140737488355328) zz6 (zw ?_);refine sD ?_;refine sR ?_;refine zam hm' rfl (zw ?_);refine zao (z:=m.sent+many s m) hWs (zw ?_);refine zam hm' rfl (zw ?_);refine zcg rfl zz69 (zw ?_);refine sR ?_;refine zcg rfl zz69 (zw ?_);refine zbv (z':=(s.out.length:Int)) ?_ ?_
 . show W ((((zix s k m).out.map zbo.row++[_]).length:Int)-1)=_
   rw [zy10,zy2,show (zix s k m).out=s.out from rfl,zbt (by simp only [zy6,zy12];omega) (by simp only [zy6,zy12];omega)];simp only [zy6,zy12];omega
 (conv=>whnf);refine zaa zz12 (zw ?_)
 (refine zaf [] [(1000,1000),(1001,1001),(1002,163),(1003,199),(1004,1004),(1005,1005),(1006,1006),(1007,1007),(1008,1008),(1009,1009)] [(0,920)] ?_;(conv=>whnf);refine dG (zpa (s2 s k m) a b s.out.length (x0 s m) w zz139 hw zz0) ?_ ⟨rfl,rfl,rfl,⟨zz1,⟨⟨rfl,_,rfl,.inl ⟨rfl,yra⟩⟩,⟨zz1,⟨⟨rfl,_,rfl,.inl ⟨rfl,(zbc (f:=zbo.row) (x:=x0 s m) rfl rfl)⟩⟩,⟨zz1,⟨zz1,⟨zz1,⟨zz1,⟨zz1,⟨zz1,trivial⟩⟩⟩⟩⟩⟩⟩⟩⟩⟩,⟨⟨rfl,rfl⟩,trivial⟩,rfl,rfl,rfl⟩)
 refine sD ?_;cases hov:ovr s m with
 | true =>
  refine zac ?_ ?_
  . exact hov
  conv=>whnf
  repeat refine sG ?_
  refine zbv (z':=((k+1:Nat):Int)) ?_ ?_
  . show W ((k:Int)+1)=_
    rw [zbt (by omega) (by omega)];push_cast;rfl
  conv=>whnf
  (refine zaf [] [(1000,1001)] [(0,930)] ?_;(conv=>whnf);refine dG (xfv (s.queue.set k (m2 s m)) k (k+1) zz0 zz3 zz3) ?_)
  rw [zfx hc0 hw rfl,zy1 hov] at hG;subst hG
  (exact zcx (zic [(0,some 930),(1,some 163),(2,some 199),(3,some 1004),(4,some 1005),(5,some 1006),(6,some 920),(7,some 1009)]) zz18)
 | false =>
  refine zab ?_ ?_
  . exact hov
  conv=>whnf
  repeat refine sG ?_
  rw [zfx hc0 hw rfl,zy0 (by rw [hov];decide)] at hG;subst hG
  (exact zci (zic [(0,some 1001),(1,some 163),(2,some 199),(3,some 1004),(4,some 1005),(5,some 1006),(6,some 920),(7,some 1009)]))):P:=h
theorem yy16 {P:Prop} (h:P:=by
 subst hG
 repeat refine sG ?_
 (exact zci (zic [(0,some 1001),(1,some 1002),(2,some 1003),(3,some 1004),(4,some 1005),(5,some 1006),(6,some 1008),(7,some 1009)]))):P:=h
theorem yy1 {P:Prop} (h:P:=by
 refine zam hm rfl (zw ?_);refine zao (z:=m.sent+many s m) hWs (zw ?_);refine zam hm rfl (zw ?_);refine sD ?_;have hm':(zix s k m).queue[k]?=some {m with mid:=zdg s m}:=by show (s.queue.set k _)[k]?=_;rw [zy41 hkl]
 have hmr:(s.queue.map zak.row)[k]?=some m.row:=by rw [zy17,hm];rfl
 (refine cL ?_;refine dL (zdl s.next) ?_)
 refine zam hm rfl (zw ?_)
 (refine zaf [] [(1000,1000),(1001,1001),(1002,1002),(1003,1003),(1004,1004),(1005,1005),(1006,1006),(1007,1007),(1008,1008),(1009,1009)] [] ?_;(conv=>whnf);refine dG (zqq s a b k m hm mf) ?_)
 (refine cL ?_;refine dL (zdl (zdg s m)) ?_)
 refine zam hm' rfl (zw ?_);refine zam hm' rfl (zw ?_);refine zam hm' rfl (zw ?_);refine zam hm' rfl (zw ?_);refine zam hm' rfl (zw ?_);refine zao (z:=m.sent+many s m) hWs (zw ?_);refine zaa (c:=0<=m.sent/\m.sent<=m.sent+many s m/\m.sent+many s m<=((m.message.data.map zco).length:Int)) ⟨ms,by omega,by rw [zy2];omega⟩ (zw ?_);refine zhf (o':=m.sent.toNat) (n':=(many s m).toNat) rfl (show (m.sent+many s m-m.sent).toNat=(many s m).toNat by rw [show m.sent+many s m-m.sent=many s m by omega]) ?_;refine zgh (f:=zco) (l:=m.message.data) (o:=m.sent.toNat) (n:=(many s m).toNat) zz0 ?_;(conv=>whnf)
 (refine zat [(0,150)]  ?_;(conv=>whnf);refine dO (Cl.zdc ((m.message.data.drop m.sent.toNat).take (many s m).toNat) zz3) ?_)
 refine zji [4,10,18,24,29,33,37] ?_ ?_ ?_
 . kernel_rfl
 . refine ⟨?_,?_,?_,?_,?_,?_,?_,trivial⟩
   all_goals
    refine And.intro trivial ?_;refine And.intro trivial ?_;refine And.intro ?_ trivial;(conv=>whnf);refine And.intro ?_ ?_
    . conv=>whnf
      all_goals first | rfl | exact zam hm rfl rfl
    refine And.intro ?_ trivial;(conv=>whnf)
    all_goals first | rfl | exact zam hm' rfl rfl
 (conv=>whnf);refine zam hm' rfl (zw ?_)
 (refine zat [(0,163)]  ?_;(conv=>whnf);refine dO (zkn s.sched {m with mid:=zdg s m} (many s m) (ovr s m) zz0 mf.lo mh) ?_)
 refine sD ?_;refine zam hm' rfl (zw ?_);refine zam hm' rfl (zw ?_);refine zam hm' rfl (zw ?_);refine zam hm' rfl (zw ?_);refine zaa (c:=((s.out.map zbo.row).length+1)*200<=140737488355328) zz6 (zw ?_);refine sD ?_;refine sR ?_;refine zam hm' rfl (zw ?_);refine zao (z:=m.sent+many s m) hWs (zw ?_);refine zam hm' rfl (zw ?_);refine zcg rfl zz69 (zw ?_);refine sR ?_;refine zcg rfl zz69 (zw ?_);refine zbv (z':=(s.out.length:Int)) ?_ ?_
 . show W ((((zix s k m).out.map zbo.row++[_]).length:Int)-1)=_
   rw [zy10,zy2,show (zix s k m).out=s.out from rfl,zbt (by simp only [zy6,zy12];omega) (by simp only [zy6,zy12];omega)];simp only [zy6,zy12];omega
 (conv=>whnf);refine zaa zz12 (zw ?_)
 (refine zaf [] [(1000,1000),(1001,1001),(1002,163),(1003,199),(1004,1004),(1005,1005),(1006,1006),(1007,1007),(1008,1008),(1009,1009)] [(0,920)] ?_;(conv=>whnf);refine dG (zpb (s2 s k m) a b s.out.length (x0 s m) w zz139 hw zz0) ?_ ⟨rfl,rfl,rfl,⟨zz1,⟨⟨rfl,_,rfl,.inl ⟨rfl,yra⟩⟩,⟨zz1,⟨⟨rfl,_,rfl,.inl ⟨rfl,(zbc (f:=zbo.row) (x:=x0 s m) rfl rfl)⟩⟩,⟨zz1,⟨zz1,⟨zz1,⟨zz1,⟨zz1,⟨zz1,trivial⟩⟩⟩⟩⟩⟩⟩⟩⟩⟩,⟨⟨rfl,rfl⟩,trivial⟩,rfl,rfl,rfl⟩)
 refine sD ?_;cases hov:ovr s m with
 | true =>
  refine zac ?_ ?_
  . exact hov
  conv=>whnf
  repeat refine sG ?_
  refine zbv (z':=((k+1:Nat):Int)) ?_ ?_
  . show W ((k:Int)+1)=_
    rw [zbt (by omega) (by omega)];push_cast;rfl
  conv=>whnf
  (refine zaf [] [(1000,1001)] [(0,930)] ?_;(conv=>whnf);refine dG (xfv (s.queue.set k (m2 s m)) k (k+1) zz0 zz3 zz3) ?_)
  rw [zfx hc0 hw rfl,zy1 hov] at hG;subst hG
  (exact zcx (zic [(0,some 930),(1,some 163),(2,some 199),(3,some 1004),(4,some 1005),(5,some 1006),(6,some 1008),(7,some 920)]) zz18)
 | false =>
  refine zab ?_ ?_
  . exact hov
  conv=>whnf
  repeat refine sG ?_
  rw [zfx hc0 hw rfl,zy0 (by rw [hov];decide)] at hG;subst hG
  (exact zci (zic [(0,some 1001),(1,some 163),(2,some 199),(3,some 1004),(4,some 1005),(5,some 1006),(6,some 1008),(7,some 920)]))):P:=h
theorem yy23 {P:Prop} (h:P:=by
 rw [zy0 ho] at hP;refine zab ?_ ?_
 . simpa using ho
 conv=>whnf
 repeat refine sG ?_
 refine zaa (c:=(0:Int)<=zcb s.config.packet B/\zcb s.config.packet B<=((B.map Chunk.row).length:Int)/\((B.map Chunk.row).length:Int)<=((B.map Chunk.row).length:Int)) ⟨by omega,by rw [zy2];omega,by omega⟩ (zw ?_);obtain ⟨x,B1,hx⟩:∃ x B1,B.take r=x::B1:=by
  cases hq:B.take r with
  | nil=>rw [zy103] at hq;rcases hq with hq | hq;omega;exact absurd hq hB
  | cons x B1=>exact ⟨x,B1,rfl⟩
 have hxl:B1.length+1=r:=by have:=congrArg List.length hx;simp at this;omega
 refine hQ2 _ _ (zw ?_);exact ⟨⟨((x::B1,B.drop r),n,acc),by rw [<- hx,zy32],by simp;omega,by simp;omega,by rw [<- i3,hP];simp⟩,(zcc (zic [(900,some 900)]) zz8),by simp;omega⟩):P:=h
theorem yy29 {P:Prop} (h:P:=by
 cases hq:B.take r with
 | nil=>rw [zy103] at hq;rcases hq with hq | hq;omega;exact absurd hq hB
 | cons x B1=>exact ⟨x,B1,rfl⟩):P:=h
theorem yy84 {P:Prop} (h:P:=by
 conv=>whnf
 repeat refine sG ?_
 refine hQ2 _ _ (zw ?_);refine sF ?_;refine hQ _ _ ?_;conv=>whnf
 exact ⟨⟨(0+1,acc),by dsimp only;omega,by dsimp only;rw [zy12] at i4;omega,i3⟩,(zdj (pK9 [(900,some 900)])),by dsimp only;omega⟩):P:=h
theorem yy85 {P:Prop} (h:P:=by
 conv=>whnf
 repeat refine sG ?_
 refine hQ2 _ _ (zw ?_);refine sF ?_;refine hQ _ _ ?_;conv=>whnf
 exact ⟨⟨(0+1,acc),by dsimp only;omega,by dsimp only;rw [zy12] at i4;omega,i3⟩,(zdj (zic [(900,some 900)])),by dsimp only;omega⟩):P:=h
theorem yy86 {P:Prop} (h:P:=by
 conv=>whnf
 repeat refine sG ?_
 refine hQ2 _ _ (zw ?_);refine sF ?_;refine hQ _ _ ?_;conv=>whnf
 exact ⟨⟨(1+1,acc),by dsimp only;omega,by dsimp only;rw [zy12] at i4;omega,i3⟩,(zdj (zic [(900,some 900)])),by dsimp only;omega⟩):P:=h
theorem yy103 {P:Prop} (h:P:=by
 refine hQ2 _ _ (zw ?_);exact ⟨⟨((t::(A++B.take r),B.drop r),n,acc),by rw [i1];simp,by simp;omega,by simp;omega,by rw [<- i3,hP];simp⟩,(zcc (zic [(900,some 900)]) zz7),by simp;omega⟩):P:=h
theorem yy24 {P:Prop} (h:P:=by
 refine zji [3] ?_ ?_ ?_
 . kernel_rfl
 . refine ⟨?_,trivial⟩
   refine And.intro trivial ?_;refine And.intro trivial ?_;refine And.intro ?_ trivial;(conv=>whnf);refine And.intro ?_ ?_
   . conv=>whnf
   refine And.intro ?_ trivial;(conv=>whnf)
   all_goals first | rfl | trace_state
 (conv=>whnf);refine zap [(0,some 900),(1,some 901),(2,some 902),(3,some 903),(4,some 904),(5,some 905),(6,some 970)] rfl rfl trivial rfl rfl ⟨⟨rfl,.inl ⟨900,rfl,rfl⟩⟩,⟨rfl,.inl ⟨901,rfl,rfl⟩⟩,⟨rfl,.inl ⟨902,rfl,rfl⟩⟩,⟨rfl,.inl ⟨903,rfl,?_⟩⟩,⟨rfl,.inl ⟨904,rfl,rfl⟩⟩,⟨rfl,.inl ⟨905,rfl,rfl⟩⟩,⟨rfl,.inl ⟨970,rfl,?_⟩⟩,trivial⟩
 . exact zar (by rw [zy5,ydp,hN,h])
 . exact zar zz140):P:=h
theorem yy48 {P:Prop} (h:P:=by
 refine sF ?_;exact ⟨⟨(A++[p],B),zae h⟩,(zax ((2,some 2)::((16,some 16)::((14,some 14)::(pJ7 [])))) zz11),by simp⟩):P:=h
theorem yy49 {P:Prop} (h:P:=by
 refine sF ?_;exact ⟨⟨(A++[p],B),zae h⟩,(zax ((2,some 2)::((16,some 16)::((14,some 14)::(pJ8 [])))) zz11),by simp⟩):P:=h
theorem yy106 {P:Prop} (h:P:=by
 refine zaj (a:=A.map (zfy t N)) (b:=B) (s:=p) rfl zz5 (zw ?_);refine sF ?_;exact ⟨⟨(A++[p],B),zae h⟩,(zax ((2,some 2)::((16,some 16)::((14,some 14)::(pJ7 [])))) zz15),by simp⟩):P:=h
theorem yy107 {P:Prop} (h:P:=by
 refine zaj (a:=A.map (zfy t N)) (b:=B) (s:=p) rfl zz5 (zw ?_);refine sF ?_;exact ⟨⟨(A++[p],B),zae h⟩,(zax ((2,some 2)::((16,some 16)::((14,some 14)::(pJ8 [])))) zz15),by simp⟩):P:=h
theorem yy42 {P:Prop} (h:P:=by
 refine sT ?_;refine zaa (c:=((out.map zbo.row).length+1)*200<=140737488355328) om (zw ?_);refine sF ?_;exact ⟨⟨_,hnx⟩,(zax [(6,some 6),(900,some 900),(901,some 115),(902,some 902)] zz36),by simp⟩):P:=h
theorem yy72 {P:Prop} (h:P:=by
 (repeat' (first | refine sT ?_ | refine sN ?_))
 refine sO ?_;refine zca s.path.toNat zz0 zz0 (zw ?_);refine sR ?_;refine sO ?_;refine zca s.path.toNat zz0 zz0 (zw ?_);refine sD ?_;refine sN ?_;refine sF ?_;exact ⟨⟨_,hnx⟩,(zax ((6,some 6)::(pJ3 [])) zz52),by simp⟩):P:=h
theorem yy82 {P:Prop} (h:P:=by
 (refine zat [(0,46)]  ?_;(conv=>whnf);refine dO (zdu l hl) ?_)
 exact zap [(0,some 46),(1,some 900),(2,none)] rfl rfl trivial rfl rfl ⟨⟨rfl,.inl ⟨46,rfl,rfl⟩⟩,⟨rfl,.inl ⟨900,rfl,rfl⟩⟩,⟨rfl,.inr ⟨rfl,rfl⟩⟩,trivial⟩):P:=h
theorem yy138 {P:Prop} (h:P:=by
 refine sT ?_;refine sF ?_;exact ⟨⟨(a++[s],b),zae h⟩,(zax [(900,some 900),(901,some 901),(903,some 903)] zz64),by simp⟩):P:=h
theorem yy3 {P:Prop} (h:P:=by
 (refine zaf [] [(1000,932)] [(0,960)] ?_;(conv=>whnf);refine dG (Sco.zfh t.out t.cum zz148) ?_)
 cases mv with
 | false =>
  rw [show zgp false t=t from zy0 (fun h=>absurd h.1 (by decide))] at hT;subst hT;(conv=>whnf)
  (refine zaf [] [(1000,5),(1001,930),(1002,931),(1003,932),(1004,933),(1005,934),(1006,935)] [(0,980),(1,981),(2,982),(3,983),(4,984),(5,985)] ?_;(conv=>whnf);refine dG (zfi t (hft)) ?_ ⟨rfl,rfl,rfl,⟨zz1,⟨zz1,⟨zz1,⟨zz1,⟨zz1,⟨zz1,⟨zz1,trivial⟩⟩⟩⟩⟩⟩⟩,⟨⟨rfl,rfl⟩,⟨⟨rfl,rfl⟩,⟨⟨rfl,rfl⟩,⟨⟨rfl,rfl⟩,⟨⟨rfl,rfl⟩,⟨⟨rfl,rfl⟩,trivial⟩⟩⟩⟩⟩⟩,rfl,rfl,rfl⟩)
  refine zap [(0,some 980),(1,some 981),(2,some 982),(3,some 983),(4,some 984),(5,some 985)] rfl rfl trivial rfl rfl ⟨⟨rfl,.inl ⟨980,rfl,rfl⟩⟩,⟨rfl,.inl ⟨981,rfl,rfl⟩⟩,⟨rfl,.inl ⟨982,rfl,rfl⟩⟩,⟨rfl,.inl ⟨983,rfl,rfl⟩⟩,⟨rfl,.inl ⟨984,rfl,rfl⟩⟩,⟨rfl,.inl ⟨985,rfl,rfl⟩⟩,trivial⟩
 | true =>
  (conv=>whnf);by_cases e1:(Sco.zdy t.out t.cum).1>t.cum
  case pos =>
   rw [show zgp true t={t with forward:=true} from zy1 ⟨rfl,e1⟩] at hT;subst hT;rw [show decide ((Sco.zdy t.out t.cum).1>t.cum)=true from zy9 e1];(conv=>whnf)
   (refine zaf [] [(1000,5),(1001,930),(1002,931),(1003,932),(1004,933),(1005,934),(1006,935)] [(0,980),(1,981),(2,982),(3,983),(4,984),(5,985)] ?_;(conv=>whnf);refine dG (zfi ({t with forward:=true}:zag) ((Fit.fwd hft))) ?_ ⟨rfl,rfl,rfl,⟨zz1,⟨zz1,⟨zz1,⟨zz1,⟨zz1,⟨zz1,⟨zz1,trivial⟩⟩⟩⟩⟩⟩⟩,⟨⟨rfl,rfl⟩,⟨⟨rfl,rfl⟩,⟨⟨rfl,rfl⟩,⟨⟨rfl,rfl⟩,⟨⟨rfl,rfl⟩,⟨⟨rfl,rfl⟩,trivial⟩⟩⟩⟩⟩⟩,rfl,rfl,rfl⟩)
   refine zap [(0,some 980),(1,some 981),(2,some 982),(3,some 983),(4,some 984),(5,some 985)] rfl rfl trivial rfl rfl ⟨⟨rfl,.inl ⟨980,rfl,rfl⟩⟩,⟨rfl,.inl ⟨981,rfl,rfl⟩⟩,⟨rfl,.inl ⟨982,rfl,rfl⟩⟩,⟨rfl,.inl ⟨983,rfl,rfl⟩⟩,⟨rfl,.inl ⟨984,rfl,rfl⟩⟩,⟨rfl,.inl ⟨985,rfl,rfl⟩⟩,trivial⟩
  case neg =>
   rw [show zgp true t=t from zy0 (fun h=>e1 h.2)] at hT;subst hT;rw [show decide ((Sco.zdy t.out t.cum).1>t.cum)=false from zy11 e1];(conv=>whnf)
   (refine zaf [] [(1000,5),(1001,930),(1002,931),(1003,932),(1004,933),(1005,934),(1006,935)] [(0,980),(1,981),(2,982),(3,983),(4,984),(5,985)] ?_;(conv=>whnf);refine dG (zfi t (hft)) ?_ ⟨rfl,rfl,rfl,⟨zz1,⟨zz1,⟨zz1,⟨zz1,⟨zz1,⟨zz1,⟨zz1,trivial⟩⟩⟩⟩⟩⟩⟩,⟨⟨rfl,rfl⟩,⟨⟨rfl,rfl⟩,⟨⟨rfl,rfl⟩,⟨⟨rfl,rfl⟩,⟨⟨rfl,rfl⟩,⟨⟨rfl,rfl⟩,trivial⟩⟩⟩⟩⟩⟩,rfl,rfl,rfl⟩)
   refine zap [(0,some 980),(1,some 981),(2,some 982),(3,some 983),(4,some 984),(5,some 985)] rfl rfl trivial rfl rfl ⟨⟨rfl,.inl ⟨980,rfl,rfl⟩⟩,⟨rfl,.inl ⟨981,rfl,rfl⟩⟩,⟨rfl,.inl ⟨982,rfl,rfl⟩⟩,⟨rfl,.inl ⟨983,rfl,rfl⟩⟩,⟨rfl,.inl ⟨984,rfl,rfl⟩⟩,⟨rfl,.inl ⟨985,rfl,rfl⟩⟩,trivial⟩):P:=h
theorem yy4 {P:Prop} (h:P:=by
 refine zap [(0,some 980),(1,some 981),(2,some 982),(3,some 983),(4,some 984),(5,some 985)] rfl rfl trivial rfl rfl ⟨⟨rfl,.inl ⟨980,rfl,rfl⟩⟩,⟨rfl,.inl ⟨981,rfl,rfl⟩⟩,⟨rfl,.inl ⟨982,rfl,rfl⟩⟩,⟨rfl,.inl ⟨983,rfl,rfl⟩⟩,⟨rfl,.inl ⟨984,rfl,rfl⟩⟩,⟨rfl,.inl ⟨985,rfl,rfl⟩⟩,trivial⟩):P:=h
theorem yy58 {P:Prop} (h:P:=by
 (conv=>whnf);exact zap [(0,some 20),(1,some 21),(2,some 22),(3,some 23),(4,some 24),(5,some 25)] rfl rfl trivial rfl rfl ⟨⟨rfl,.inl ⟨20,rfl,rfl⟩⟩,⟨rfl,.inl ⟨21,rfl,rfl⟩⟩,⟨rfl,.inl ⟨22,rfl,rfl⟩⟩,⟨rfl,.inl ⟨23,rfl,rfl⟩⟩,⟨rfl,.inl ⟨24,rfl,rfl⟩⟩,⟨rfl,.inl ⟨25,rfl,rfl⟩⟩,trivial⟩):P:=h
theorem yy129 {P:Prop} (h:P:=by
 split
 . obtain ⟨k,hk⟩:∃ k:Nat,m.id=k:=⟨m.id.toNat,by omega⟩
   rw [hk];exact ⟨yjv h zz0,by rw [znk,zy26]⟩
 . exact ⟨h,rfl⟩):P:=h
theorem yy108 {P:Prop} (h:P:=by
 exact ⟨by rw [g2];exact q.path0,by rw [g2];exact q.path1,by rw [g3];exact q.id0,by rw [g3];exact q.id1,by rw [g4];exact q.zas,by rw [g4];exact q.zbr,by rw [g4];exact q.data⟩):P:=h
namespace Go.HL
namespace Snd
open Ser
def yby (c:Config):zag:=⟨c,0,[],Sch.new c.streams,[],List.replicate c.paths.toNat (Paths.new c.part),c.first-1,c.first,400,List.replicate (2*c.streams).toNat 0,[],false,c.first-1⟩
def noS:zag:=⟨⟨0,0,0,0,0,0,0⟩,0,[],⟨0,0,[]⟩,[],[],0,0,0,[],[],false,0⟩
def zff (s:zag) (m:Message):Int :=
 if m.stream<0\/m.stream>=s.config.streams\/m.life<0\/m.life>1000\/m.tries<0\/m.tries>1000 then 3 else
 if m.data.length<1\/m.data.length>60 then 4 else if (s.queue.length:Int)>=s.config.waiting then 7 else 0
def zht (s:zag) (m:Message):zag:={s with queue:=s.queue++[⟨s.fates.length,-1,s.clock,0,0,m⟩],fates:=s.fates++[1]}
def flP (out:List zbo) (i:Nat) (p:Path):Path:={p with zba:=(Sco.fl i out:Nat)}
def zck (s:zag):zag:={s with paths:=s.paths.mapIdx fun i p=>flP s.out i p}
def zpp (next:Int) (m:zak):zbo:=⟨next,m.id,0,0,0,0,0,0,0,⟨1,tag next,m.message.stream,tag m.mid,m.parts,true,m.message.ordered,[],[],0,[]⟩⟩
def zfb (id:Int) (s:zag) (m:zak):zag:=if m.id=id/\m.parts>0 then {s with out:=s.out++[zpp s.next m],next:=W (s.next+1)} else s
def zfc (s:zag) (id:Int):zag :=
 let t:=s.queue.foldl (zfb id) {s with fates:=s.fates.set id.toNat 3}
 zck {t with queue:=s.queue.filter fun m=>decide (m.id≠id),sched:=if s.sched.hand=id then {s.sched with hand:=-1} else s.sched,out:=t.out.map (Sco.zgr id),forward:=true}
def old (clock came life:Int):Bool:=decide (life>0)&&decide (W (clock-came)>=life)
def zkx (s:zag) (m:zak):zag:=if old s.clock m.came m.message.life then zfc s m.id else s
def xdq (s:zag) (x:zbo):Bool:=decide (s.fates[x.id.toNat]?.getD 0=1)&&(decide (x.state≠2)&&(old s.clock x.came x.life||(decide (x.state=3)&&(decide (x.tries>0)&&decide (x.times>x.tries)))))
def zhd (s:zag) (x:zbo):zag:=if xdq s x then zfc s x.id else s
def expire (s:zag):zag:=(s.queue.foldl zkx s).out.foldl zhd (s.queue.foldl zkx s)
structure zew where
 s:zag
 out:List (List Chunk)
def zsz (x:zbo) (path:Int):zbo:={x with state:=1,path:=path,missed:=0,times:=W (x.times+1)}
def setAt {α:Type} (l:List α) (k:Nat) (f:α->α):List α:=match l[k]? with
 | none=>l
 | some x=>l.set k (f x)
def fly (p:zew) (i path:Nat):zew:=match p.s.out[i]? with
 | none=>p
 | some x=>⟨{p.s with out:=p.s.out.set i (zsz x path),paths:=setAt p.s.paths path fun a=>{a with zba:=W (a.zba+x.chunk.data.length)}},setAt p.out path (·++[x.chunk])⟩
def opened (s:zag) (path:Nat):Bool:=match s.paths[path]? with
 | none=>false
 | some a=>decide (a.zba<a.window)
def zcz (path:Nat) (p:zew) (i:Nat):zew:=match p.s.out[i]? with
 | none=>p
 | some x=>if x.state=3/\opened p.s path=true then fly p i path else p
def choose (s:zag):Nat:=(Paths.zed 0 s.paths).toNat
def again (p:zew):zew:=(List.range p.s.out.length).foldl (zcz (choose p.s)) p
def zba (s:zag):Int:=s.paths.foldl (fun n a=>W (n+a.zba)) 0
def zgu (s:zag) (m:zak):Nat:=(m.message.stream+if m.message.ordered then 0 else s.config.streams).toNat
def zdg (s:zag) (m:zak):Int:=if m.mid<0 then s.mids[zgu s m]?.getD 0 else m.mid
def zdt (s:zag) (m:zak):List Int:=if m.mid<0 then setAt s.mids (zgu s m) (fun n=>W (n+1)) else s.mids
def cut (s:zag) (m:zak) (n:Int):Chunk:=⟨1,tag s.next,m.message.stream,tag (zdg s m),m.parts,decide (m.sent+n=m.message.data.length),m.message.ordered,(m.message.data.drop m.sent.toNat).take n.toNat,[],0,[]⟩
def many (s:zag) (m:zak):Int:=if (m.message.data.length:Int)-m.sent<s.config.part then (m.message.data.length:Int)-m.sent else s.config.part
def zly (p:zew) (k:Nat) (m:zak) (n:Int):zew :=
 let zyb:=decide (m.sent+n=m.message.data.length)
 let m':zak:={m with mid:=zdg p.s m}
 let s:={p.s with mids:=zdt p.s m,sched:=Sch.had p.s.sched m' n zyb,out:=p.s.out++[⟨p.s.next,m.id,0,0,0,0,m.came,m.message.life,m.message.tries,cut p.s m n⟩],next:=W (p.s.next+1),queue:=if zyb then p.s.queue.eraseIdx k else p.s.queue.set k {m' with sent:=m.sent+n,parts:=W (m.parts+1)}}
 fly ⟨s,p.out⟩ p.s.out.length (choose p.s)
def zec (s:zag):Int:=Sch.next s.config.turns s.sched s.queue
def next (p:zew):Option zew :=
 if zec p.s<0\/opened p.s (choose p.s)=false\/(p.s.out.length:Int)>=60 then none else match p.s.queue[(zec p.s).toNat]? with
  | none=>none
  | some m=>if zba p.s>0/\W (zba p.s+many p.s m)>p.s.room then none else some (zly p (zec p.s).toNat m (many p.s m))
def zfl:Nat->zew->zew
 | 0,p=>p
 | n+1,p=>match next p with
  | none=>p
  | some q=>zfl n q
def zcs (s:zag) (a:Path):Path:=if a.zcs=0 then {a with zcs:=W (s.clock+a.wait)} else a
def forward (p:zew):zew:=if p.s.forward=false\/(Sco.zdy p.s.out p.s.cum).1=p.s.cum then p else
 ⟨{p.s with forward:=false,paths:=setAt p.s.paths (choose p.s) (zcs p.s)},setAt p.out (choose p.s) (·++[⟨3,tag (Sco.zdy p.s.out p.s.cum).1,0,0,0,false,false,[],[],0,(Sco.zdy p.s.out p.s.cum).2⟩])⟩
def zcb (most:Int) (l:List Chunk):Int:=if 1>Pck.zft most 0 0 l then 1 else Pck.zft most 0 0 l
def zlz (most:Int) (path:Int) (l:List Chunk):List zau:=if (Pck.zdb (l.take (zcb most l).toNat) most).2=0 then [⟨path,false,(Pck.zdb (l.take (zcb most l).toNat) most).1⟩] else []
def zfm (most:Int) (path:Int):Nat->List Chunk->List zau
 | 0,_=>[]
 | n+1,l=>if l=[] then [] else zlz most path l++zfm most path n (l.drop (zcb most l).toNat)
def zbs (most:Int):Nat->List (List Chunk)->List zau
 | _,[]=>[]
 | k,l::r=>zfm most k l.length l++zbs most (k+1) r
def zfy (s:zag) (n:Int) (a:Path):Path:=if a.zba>0/\a.zcs=0 then {a with zcs:=W (s.clock+a.wait)} else if a.zba=0/\n=s.cum then {a with zcs:=0} else a
def ydp (s:zag):zag:={s with paths:=s.paths.map (zfy s (Sco.zdy s.out s.cum).1)}
def zmt (s:zag):zew:=zfl 61 (again (forward ⟨expire s,List.replicate s.paths.length []⟩))
def zjp (s:zag):zag×List zau:=(ydp (zmt s).s,zbs s.config.packet 0 (zmt s).out)
def settled (s:zag) (id:Nat) (f:Int):Int:=if f=1/\(s.queue.any fun m=>decide (m.id=(id:Int)))=false/\(s.out.any fun x=>decide (x.id=(id:Int))&&decide (x.state≠2))=false then 2 else f
def settle (s:zag):zag:={s with fates:=s.fates.mapIdx fun id f=>settled s id f}
def heard (s:zag) (c:Chunk):zag :=
 let k:=Sco.zin s.out s.cum c s.paths.length
 let moved:=decide (k.2.1>s.cum)
 let t:=zck {s with out:=k.1,cum:=k.2.1,room:=c.room,paths:=s.paths.mapIdx fun i p=>if k.2.2.1[i]?.getD 0>0 then Paths.zka p (k.2.2.1[i]?.getD 0) s.config.part moved else p}
 let u:=match k.2.2.2.getLast? with
  | none=>t
  | some z=>if z>t.recover then {t with paths:=setAt t.paths (choose t) fun p=>Paths.zpt p s.config.part,recover:=W (t.next-1)} else t
 settle (if moved=true/\(Sco.zdy u.out u.cum).1>u.cum then {u with forward:=true} else u)
def yfg (s:zag) (c:Chunk):zag:=if c.kind≠2 then s else if zde s.cum c.tag<s.cum\/zde s.cum c.tag>s.cum+s.out.length then s else heard s c
def zlc (part:Int) (s:zag) (i:Nat):zag:=match s.paths[i]? with
 | none=>s
 | some p=>if p.zcs=0\/s.clock<p.zcs then s else
  let t:={s with out:=s.out.map (Sco.late i),paths:=s.paths.set i (Paths.late p part)}
  if (Sco.zdy t.out t.cum).1>t.cum then {t with forward:=true} else t
def tick (s:zag):zag:=(List.range s.paths.length).foldl (zlc s.config.part) {s with clock:=W (s.clock+1)}
end Snd
namespace Snd
open Ser
abbrev xcx (l:List zak):zai:=.live (.row 117 10 (l.map zak.row))
abbrev xfy (l:List zbo):zai:=.live (.row 134 20 (l.map zbo.row))
abbrev yyv (l:List Path):zai:=.live (.row 86 7 (l.map Path.row))
abbrev zxu (l:List Int):zai:=.live (.row 3 1 (l.map fun n=>[pi n]))
abbrev zxt (l:List Chunk):zai:=.live (.row 61 11 (l.map Chunk.row))
abbrev zpe (l:List Path):HV:=.p (.sl 7 (l.map Path.row))
def ycq (s:zag) (q h o p m f:HV):List HV:=[i64 s.config.streams,i64 s.config.part,i64 s.config.packet,i64 s.config.paths,i64 s.config.turns,i64 s.config.waiting,i64 s.config.first,i64 s.clock,q,i64 s.sched.last,i64 s.sched.hand,h,o,p,i64 s.cum,i64 s.next,i64 s.room,m,f,zbj s.forward,i64 s.recover]
def yyt (s:zag) (q h o p m f x:HV):List HV:=[i64 s.config.streams,i64 s.config.part,i64 s.config.packet,i64 s.config.paths,i64 s.config.turns,i64 s.config.waiting,i64 s.config.first,i64 s.clock,q,i64 s.sched.last,i64 s.sched.hand,h,o,p,i64 s.cum,i64 s.next,i64 s.room,m,f,zbj s.forward,i64 s.recover,x]
abbrev xfh (s:zag) (a b c d e f:Nat):HV:=.agg (ycq s (.own a) (.own b) (.own c) (.own d) (.own e) (.own f))
abbrev zzt (s:zag) (a b c d e f:Nat) (L:List (Nat×zai)):List (Nat×zai):=(a,xcx s.queue)::(b,zxu s.sched.had)::(c,xfy s.out)::(d,yyv s.paths)::(e,zxu s.mids)::(f,zxu s.fates)::L
abbrev xjg (s:zag) (q h o p m f:Nat) (L:List (Nat×zai)):List (Nat×zai):=(1000,.live (.cells 32 (ycq s (.own q) (.own h) (.own o) (.own p) (.own m) (.own f))))::zzt s q h o p m f L
abbrev xgb (s:zag) (a:List Chunk) (q h o p m f x c:Nat) (L:List (Nat×zai)):List (Nat×zai):=(1000,.live (.cells 139 (yyt s (.own q) (.own h) (.own o) (.own p) (.own m) (.own f) (.own x))))::zzt s q h o p m f ((x,.live (.cells 145 [.own c]))::(c,zxt a)::L)
abbrev xcy (s:zag) (a b:List Chunk) (q h o p m f x c d:Nat) (L:List (Nat×zai)):List (Nat×zai):=(1000,.live (.cells 139 (yyt s (.own q) (.own h) (.own o) (.own p) (.own m) (.own f) (.own x))))::zzt s q h o p m f ((x,.live (.cells 145 [.own c,.own d]))::(c,zxt a)::(d,zxt b)::L)
abbrev xhl (s:zag) (q h o p m f x:Nat) (L:List (Nat×zai)):List (Nat×zai):=(1000,.live (.cells 139 (yyt s (.own q) (.own h) (.own o) (.own p) (.own m) (.own f) (.own x))))::zzt s q h o p m f ((x,.live (.cells 145 [zeg]))::L)
abbrev xhm (s:zag) (q h o p m f x:Nat) (L:List (Nat×zai)):List (Nat×zai):=(1000,.live (.cells 139 (yyt s (.own q) (.own h) (.own o) (.own p) (.own m) (.own f) (.own x))))::zzt s q h o p m f ((x,.live (.cells 145 [zeg,zeg]))::L)
abbrev pH0 (s:zag) :List (Nat×zai):=xjg s  1001 1002 1003 1004 1005 1006  []
abbrev pD0 (s:zag) :List (Nat×zai):=xjg s  0 1 2 3 4 5 [(1001,.dead),(1002,.dead),(1003,.dead),(1004,.dead),(1005,.dead),(1006,.dead)]
abbrev pH1 (s:zag) (a:List Chunk):List (Nat×zai):=xgb s a 1001 1002 1003 1004 1005 1006 1007 1008 []
abbrev pD1 (s:zag) (a:List Chunk):List (Nat×zai):=xgb s a 0 1 2 3 4 5 1007 6 [(1001,.dead),(1002,.dead),(1003,.dead),(1004,.dead),(1005,.dead),(1006,.dead),(1008,.dead)]
abbrev pH2 (s:zag) (a b:List Chunk):List (Nat×zai):=xcy s a b 1001 1002 1003 1004 1005 1006 1007 1008 1009 []
abbrev pD2 (s:zag) (a b:List Chunk):List (Nat×zai):=xcy s a b 0 1 2 3 4 5 1007 6 7 [(1001,.dead),(1002,.dead),(1003,.dead),(1004,.dead),(1005,.dead),(1006,.dead),(1008,.dead),(1009,.dead)]
abbrev pH3 (s:zag) :List (Nat×zai):=xhl s  1001 1002 1003 1004 1005 1006 1007 []
abbrev pD3 (s:zag) :List (Nat×zai):=xhl s  0 1 2 3 4 5 1007 [(1001,.dead),(1002,.dead),(1003,.dead),(1004,.dead),(1005,.dead),(1006,.dead)]
abbrev pH4 (s:zag) :List (Nat×zai):=xhm s  1001 1002 1003 1004 1005 1006 1007 []
abbrev pD4 (s:zag) :List (Nat×zai):=xhm s  0 1 2 3 4 5 1007 [(1001,.dead),(1002,.dead),(1003,.dead),(1004,.dead),(1005,.dead),(1006,.dead)]
abbrev ylu:List HV:=[i64 0,i64 0,i64 0,i64 0,i64 0,i64 0,i64 0,i64 0,zeg,i64 0,i64 0,zeg,zeg,zeg,i64 0,i64 0,i64 0,zeg,zeg,zbj false,i64 0]
structure Fit (s:zag):Prop where
 queue:s.queue.length<2 ^ 22
 had:s.sched.had.length<2 ^ 22
 out:Sco.zev s.out
 paths:s.paths.length<2 ^ 22
 mids:s.mids.length<2 ^ 22
 fates:s.fates.length<2 ^ 30
 data:∀ m∈s.queue,m.message.data.length<2 ^ 38
theorem zdu (s:zag) (hs:Fit s):zan Tryz.prog 33 [s.hv] zad (xfh s 0 1 2 3 4 5) (lk .free (zzt s 0 1 2 3 4 5 [])):=by
 obtain ⟨h1,h2,h3,h4,h5,h6,h7⟩:=hs;refine zaq mixed Tryz.func33 zz4 [] (fun _=>.inl rfl) ?_;(conv=>whnf);refine ⟨{x:List zak×List zak // s.queue=x.1++x.2},fun | ⟨(A,B),_⟩=>hs 47 [(1,.ptr 1 0),(2,.ptr 2 0),(3,.own 900),(7,Sch.qs s.queue),(8,i64 s.queue.length),(9,i64 A.length)] [(1,.live (.cells 32 (ycq s (Sch.qs s.queue) (ints s.sched.had) (Sco.zdz s.out) (zpe s.paths) (ints s.mids) (ints s.fates)))),(2,.live (.cells 32 ylu)),(900,xcx A)],fun x=>x.1.2.length,⟨([],s.queue),rfl⟩,?_,?_⟩
 . exact (zbe [(1,some 1),(2,some 2),(900,none)])
 rintro ⟨⟨A,B⟩,h⟩;dsimp only at h;(conv=>whnf);cases B with
 | cons p B =>
  have hz:=zay h;have hp:=h7 p (zgm h);refine sT ?_;refine zaj h rfl (zw ?_)
  (refine zat [(0,16)]  ?_;(conv=>whnf);refine dO (Cl.zdc p.message.data zz0) ?_)
  refine zaa (c:=((A.map zak.row).length+1)*96<=140737488355328) zz3 (zw ?_);refine sF ?_;refine ⟨⟨(A++[p],B),zae h⟩,(zax [(1,some 1),(2,some 2),(900,some 22)] (by repeat' (first | exact z0 | refine z1 ?_ | refine ⟨?_,?_⟩ | ((exact zbc (f:=zak.row) rfl rfl)) | exact z2))),by simp⟩
 | nil =>
  have hz:=zbk h;rw [zy5] at h;refine sN ?_
  (refine zat [(0,27)]  ?_;(conv=>whnf);refine dO (Sch.zdu s.sched zz0) ?_)
  (refine zat [(0,30)]  ?_;(conv=>whnf);refine dO (Sco.zdu s.out h3) ?_)
  refine sD ?_
  (refine zat [(0,36)]  ?_;(conv=>whnf);refine dO (Cl.yjf s.paths zz0) ?_)
  (refine zat [(0,39)]  ?_;(conv=>whnf);refine dO (Cl.zrd s.mids zz0) ?_)
  (refine zat [(0,42)]  ?_;(conv=>whnf);refine dO (Cl.zrd s.fates zz0) ?_)
  refine sD ?_;refine zap [(0,some 900),(1,some 27),(2,some 30),(3,some 36),(4,some 39),(5,some 42)] rfl rfl trivial rfl rfl ⟨⟨rfl,.inl ⟨900,rfl,?_⟩⟩,⟨rfl,.inl ⟨27,rfl,rfl⟩⟩,⟨rfl,.inl ⟨30,rfl,rfl⟩⟩,⟨rfl,.inl ⟨36,rfl,rfl⟩⟩,⟨rfl,.inl ⟨39,rfl,rfl⟩⟩,⟨rfl,.inl ⟨42,rfl,rfl⟩⟩,trivial⟩;exact zar (by rw [h])
theorem yie (s:zag)  (came life:Int):zan Tryz.prog 130 [.ptr 1000 0,i64 came,i64 life] (lk .free (pH3 s )) (zbj (old s.clock came life)) (lk .free (pH3 s )):=by
 exact yy78
theorem yif (s:zag)  (came life:Int):zan Tryz.prog 130 [.ptr 1000 0,i64 came,i64 life] (lk .free (pH4 s )) (zbj (old s.clock came life)) (lk .free (pH4 s )):=by
 exact yy78
theorem yhx (s:zag) (a:List Chunk) (h4:s.paths.length<2 ^ 22):zan Tryz.prog 136 [.ptr 1000 0] (lk .free (pH1 s a)) (i64 (zba s)) (lk .free (pH1 s a)):=by
 refine zaq mixed Tryz.func136 zz4 [1000,1001,1002,1003,1004,1005,1006,1007,1008] zbq ?_;(conv=>whnf);refine ⟨{x:List Path×List Path // s.paths=x.1++x.2},fun | ⟨(A,B),_⟩=>hsP [1000,1001,1002,1003,1004,1005,1006,1007,1008] 22 [(3,i64 (A.foldl (fun n a=>W (n+a.zba)) 0)),(10,.own 1004),(11,i64 s.paths.length),(12,i64 A.length)] (pH1 s a),fun x=>x.1.2.length,⟨([],s.paths),rfl⟩,?_,?_⟩
 . exact (zcc (pK9 []) zz2)
 rintro ⟨⟨A,B⟩,h⟩;dsimp only at h;(conv=>whnf);cases B with
 | cons p B =>
  have hz:=zay h;refine sT ?_;refine sO ?_;refine zaj h rfl (zw ?_);refine sR ?_;refine sF ?_;exact ⟨⟨(A++[p],B),zae h⟩,(zcc (pK9 []) zz48),by simp⟩
 | nil =>
  have hz:=zbk h;rw [zy5] at h;refine sN ?_
  (exact zcx (pK9 []) zz99)
theorem ztn (s:zag) (a b:List Chunk) (h4:s.paths.length<2 ^ 22):zan Tryz.prog 136 [.ptr 1000 0] (lk .free (pH2 s a b)) (i64 (zba s)) (lk .free (pH2 s a b)):=by
 refine zaq mixed Tryz.func136 zz4 [1000,1001,1002,1003,1004,1005,1006,1007,1008,1009] zbq ?_;(conv=>whnf);refine ⟨{x:List Path×List Path // s.paths=x.1++x.2},fun | ⟨(A,B),_⟩=>hsP [1000,1001,1002,1003,1004,1005,1006,1007,1008,1009] 22 [(3,i64 (A.foldl (fun n a=>W (n+a.zba)) 0)),(10,.own 1004),(11,i64 s.paths.length),(12,i64 A.length)] (pH2 s a b),fun x=>x.1.2.length,⟨([],s.paths),rfl⟩,?_,?_⟩
 . exact (zcc (zic []) zz2)
 rintro ⟨⟨A,B⟩,h⟩;dsimp only at h;(conv=>whnf);cases B with
 | cons p B =>
  have hz:=zay h;refine sT ?_;refine sO ?_;refine zaj h rfl (zw ?_);refine sR ?_;refine sF ?_;exact ⟨⟨(A++[p],B),zae h⟩,(zcc (zic []) zz48),by simp⟩
 | nil =>
  have hz:=zbk h;rw [zy5] at h;refine sN ?_
  (exact zcx (zic []) zz99)
end Snd
namespace Sco
open Ser
theorem zfh (l:List zbo) (cum:Int) (hl:l.length<2 ^ 38):zan Tryz.prog 81 [.own 1000,i64 cum] (lk .free [(1000,zja l)]) (.tup [i64 (zdy l cum).1,.own 0]) (lk .free [(1000,zja l),(0,.ro (.row 180 3 ((zdy l cum).2.map zdx.row)))]):=by
 refine zaq mixed Tryz.func81 zz4 [1000] zbq ?_;generalize hR:zdy l cum=R;(conv=>whnf);refine zhw.meet PUnit (fun _=>hsP [1000] 47 [(1,i64 R.1),(6,.own 900)] [(1000,zja l),(900,.ro (.row 180 3 (R.2.map zdx.row)))]) ?_ ?_
 . conv=>whnf
   refine ⟨{x:List zbo×List zbo×Int×List zdx // l=x.1++x.2.1/\x.2.2.2.length<=8/\zeu x.2.2.1 x.2.2.2 x.2.1=R},fun | ⟨(a,b,z,sk),_⟩=>hsP [1000] 47 [(1,i64 z),(6,.own 900),(10,.own 1000),(11,i64 l.length),(12,i64 a.length)] [(1000,zja l),(900,yhs sk)],fun x=>x.1.2.1.length,⟨([],l,cum,[]),rfl,by simp,hR⟩,?_,?_⟩
   . exact (zcc [(1000,some 1000),(900,none)] zz2)
   rintro ⟨⟨a,b,z,sk⟩,h,hsk,hi⟩;dsimp only at h hsk hi;cases b with
   | nil =>
    have hz:=zbk h;simp only [zeu] at hi;subst hi;(conv=>whnf);refine sN ?_;exact ⟨⟨⟩,(zdj [(1000,some 1000),(900,some 900)])⟩
   | cons s b =>
    have hz:=zay h;simp only [zeu] at hi;(conv=>whnf);refine sT ?_;refine sO ?_;refine zaj h rfl (zw ?_);refine sR ?_;refine zah (fun c1=>?_) (fun c1=>?_)
    . have c1:s.number≠W (z+1):=by simpa using c1
      rw [zy1 (.inl c1)] at hi;subst hi;(conv=>whnf);exact ⟨⟨⟩,(zdj [(1000,some 1000),(900,some 900)])⟩
    have c1:¬ s.number≠W (z+1):=by simpa using c1
    (conv=>whnf);have sl:=yco s.chunk sk;by_cases c2:s.state=4
    . rw [zy0 (by rintro (h1 | h1);exact c1 h1;exact h1.1 c2),zy1 c2] at hi
      refine sN ?_
      (try refine sG ?_)
      refine sT ?_
      (refine zat [(0,37)]  ?_;(conv=>whnf);refine dO (zxf sk s.chunk zz0) ?_)
      refine zah (fun c3=>?_) (fun c3=>?_)
      . have c3:(skip s.chunk sk).length>8:=by simp at c3;omega
        rw [zy1 c3] at hi;subst hi;(conv=>whnf);exact ⟨⟨⟩,(zdj [(1000,some 1000),(900,some 900)])⟩
      . have c3:¬ (skip s.chunk sk).length>8:=by simp at c3;omega
        rw [zy0 c3] at hi;(conv=>whnf);refine sF ?_;exact ⟨⟨(a++[s],b,s.number,skip s.chunk sk),zae h,by dsimp only;omega,hi⟩,(zdj [(1000,some 1000),(900,some 37)]),by simp⟩
    . by_cases c3:s.state=2
      . rw [zy0 (by rintro (h1 | h1);exact c1 h1;exact h1.2 c3),zy0 c2] at hi
        refine sT ?_;refine sN ?_
        (try refine sG ?_)
        refine sN ?_;refine sF ?_;exact ⟨⟨(a++[s],b,s.number,sk),zae h,hsk,hi⟩,(zdj [(1000,some 1000),(900,some 900)]),by simp⟩
      . rw [zy1 (.inr ⟨c2,c3⟩)] at hi
        subst hi;refine sT ?_;refine sT ?_;exact ⟨⟨⟩,(zdj [(1000,some 1000),(900,some 900)])⟩
 . rintro ⟨⟩
   conv=>whnf
   (exact zci [(1000,some 1000),(0,some 900)])
end Sco
namespace Snd
theorem xcd (l:List zak) (hb:l.length<2 ^ 39):zan Tryz.prog 129 [.own 1000] (lk .free [(1000,.live (.row 117 10 (l.map zak.row)))]) (.own 0) (lk .free [(1000,.live (.row 117 10 (l.map zak.row))),(0,.live (.row 117 10 (l.map zak.row)))]):=by
 refine zaq mixed Tryz.func129 zz4 [1000] zbq ?_;(conv=>whnf);intro b hn;(conv=>whnf);refine zah (fun c=>?_) (fun c=>?_)
 . conv=>whnf
   exact yy124
 . conv=>whnf
   refine zaa (c:=(([]:List (List PV)).length+(l.map zak.row).length)*96<=140737488355328) zz3 ?_;exact yy114
theorem xce (l:List zbo) (hb:l.length<2 ^ 38):zan Tryz.prog 132 [.own 1000] (lk .free [(1000,.live (.row 134 20 (l.map zbo.row)))]) (.own 0) (lk .free [(1000,.live (.row 134 20 (l.map zbo.row))),(0,.live (.row 134 20 (l.map zbo.row)))]):=by
 refine zaq mixed Tryz.func132 zz4 [1000] zbq ?_;(conv=>whnf);intro b hn;(conv=>whnf);refine zah (fun c=>?_) (fun c=>?_)
 . conv=>whnf
   exact yy124
 . conv=>whnf
   refine zaa (c:=(([]:List (List PV)).length+(l.map zbo.row).length)*200<=140737488355328) zz3 ?_;exact yy114
end Snd
namespace Snd
open Ser Cl
theorem zod {g:FuncId} {c1:List PV} {p:zak->Bool} (hg:∀ m:zak,zan Tryz.prog g [m.hv,.rp c1] zad (zbj (p m)) zad) (q:List zak) (hb:q.length<2 ^ 62) :
 zan Tryz.prog 158 [.p (.sl 10 (q.map zak.row)),.clo g [.rp c1]] zad (i64 (zch p 0 q)) zad:=by
 refine zal mixed Tryz.func158 zz4 ?_;(conv=>whnf);refine ⟨{k:Nat // k<=q.length/\zch p k (q.drop k)=zch p 0 q},fun | ⟨k,_⟩=>hs 19 [(0,.p (.sl 10 (q.map zak.row))),(1,.clo g [.rp c1]),(7,i64 (q.map zak.row).length),(8,i64 k)] [],fun k=>q.length-k.1,⟨0,by simp⟩,?_,?_⟩
 . exact (zbe [])
 . rintro ⟨k,hk,hi⟩
   exact yy5
theorem yei {g:FuncId} {c1:List PV} {p:zak->Bool} (hg:∀ m:zak,zan Tryz.prog g [m.hv,.rp c1] zad (zbj (p m)) zad) (A0 B0:List zak) (x:zak) (hA:∀ y∈A0,p y=false) (hx:p x=true) (hb:(A0++x::B0).length<2 ^ 38) :
 zan Tryz.prog 160 [.own 1000,.clo g [.rp c1]] (lk .free [(1000,.live (.row 117 10 ((A0++x::B0).map zak.row)))])
  (.osl 1000 10 0 ((A0++x::B0).filter fun y=>!p y).length) (lk .free [(1000,.live (.row 117 10 ((((A0++x::B0).filter fun y=>!p y).map zak.row)++List.replicate ((A0++x::B0).length-((A0++x::B0).filter fun y=>!p y).length) ([pi 0,pi 0,pi 0,pi 0,pi 0,pi 0,pb false,pi 0,pi 0,.v (.slice none 0 0)]))))]):=by
 refine zaq mixed Tryz.func160 zz4 [1000] zbq ?_;have hfA:A0.filter (fun y=>!p y)=A0:=zy92.2 fun y hy=>by rw [hA y hy];rfl
 have hlen:(A0++x::B0).length=A0.length+1+B0.length:=by simp;omega
 conv=>whnf
 (refine cL ?_;refine dL (zod hg (A0++x::B0) zz0) ?_)
 rw [yfr A0 B0 x hA hx];(conv=>whnf)
 try refine sG ?_
 refine sF ?_;refine ⟨{y:(List zak×List zak)×List zak×List zak // A0++x::B0=y.1.1++y.1.2/\y.2.1=y.1.1.filter (fun z=>!p z)/\0<y.2.2.length/\y.2.1.length+y.2.2.length=y.1.1.length},fun | ⟨((A,B),K,G),_⟩=>hsP [1000] 42 [(0,.own 1000),(1,.clo g [.rp c1]),(5,i64 K.length),(6,i64 A.length)] [(1000,.live (.row 117 10 ((K++G++B).map zak.row)))],fun y=>y.1.1.2.length,⟨((A0++[x],B0),A0,[x]),by simp,by simp [hfA,hx],by simp,by simp⟩,?_,?_⟩
 . exact (zcc [(1000,some 1000)] zz23)
 rintro ⟨⟨⟨A,B⟩,K,G⟩,h,hK,hG,hl⟩;dsimp only at h hK hG hl;have hAB:(A0++x::B0).length=A.length+B.length:=by rw [h];simp
 (conv=>whnf);cases B with
 | nil =>
  rw [zy12] at hAB;rw [zy5] at h;have hF:(A0++x::B0).filter (fun z=>!p z)=K:=by rw [h,hK]
  refine zab zz3 (zw ?_)
  try refine sG ?_
  refine sOm ?_;refine sOm ?_;refine zaa zz63 (zw ?_);refine zap [(1000,some 1000)] rfl rfl ⟨rfl,trivial⟩ rfl ?_ ⟨⟨rfl,.inl ⟨1000,rfl,?_⟩⟩,trivial⟩
  . show HV.osl 1000 10 0 _=HV.osl 1000 10 0 _
    rw [hF];rfl
  . refine zar ?_
    rw [hF,zcv,zy5,zy34,zy19 (by simp;omega),zy5];congr 1
    . exact zy86 zz5
    . congr 1;simp;omega
 | cons v B =>
  rw [zy6] at hAB;have e1:K++G++v::B=(K++G)++v::B:=rfl;refine zac zz3 (zw ?_)
  try refine sG ?_
  refine sO ?_;refine zaj e1 zz3 (zw ?_)
  (refine cZ ?_;refine dL (hg v) ?_)
  cases hv:p v with
  | true =>
   exact yy104
  | false =>
   obtain ⟨g0,G,rfl⟩:∃ g0 G',G=g0::G':=by cases G with
    | nil=>simp at hG
    | cons a b=>exact ⟨a,b,rfl⟩
   have e2:K++(g0::G)++v::B=K++g0::(G++v::B):=by simp
   rw [zy6] at hl;(conv=>whnf)
   try refine sG ?_
   refine sO ?_;refine zaj e2 zz5 (zw ?_);refine sF ?_;refine sF ?_;refine ⟨⟨((A++[v],B),K++[v],G++[v]),by rw [h];simp,by rw [zy45,<- hK];simp [hv],by simp,by simp;omega⟩,(zcc [(1000,some 1000)] (by repeat' (first | exact z0 | refine z1 ?_ | refine ⟨?_,?_⟩ | ((exact zbl om)) | ((exact (zei (f:=zak.row) (a:=K) (b:=G++v::B) (x:=g0) (y:=v) (by simp) rfl).symm.trans (zar (by simp)))) | ((refine (yov e2 ?_ rfl).trans (zar (by simp));simp)) | exact z2))),by simp⟩
theorem zyo {g:FuncId} {c1:List PV} {p:zak->Bool} (hg:∀ m:zak,zan Tryz.prog g [m.hv,.rp c1] zad (zbj (p m)) zad) (l:List zak) (hb:l.length<2 ^ 38) :
 zan Tryz.prog 160 [.own 1000,.clo g [.rp c1]] (lk .free [(1000,.live (.row 117 10 (l.map zak.row)))])
  (.own 0) (lk .free [(1000,.dead),(0,.live (.row 117 10 ((l.filter fun y=>!p y).map zak.row)))]):=by
 rcases yfs p l with ⟨h1,h2⟩ | ⟨A,x,B,rfl,hA,hx⟩
 . refine zaq mixed Tryz.func160 zz4 [1000] zbq ?_
   rw [zy92.2 fun y hy=>by rw [h2 y hy];rfl];(conv=>whnf)
   (refine cL ?_;refine dL (zod hg l zz0) ?_)
   exact yy115
 . have h:=zkf (d:=0) (L:=[]) (rows:=(((A++x::B).filter fun y=>!p y).map zak.row)++List.replicate ((A++x::B).length-((A++x::B).filter fun y=>!p y).length) ([pi 0,pi 0,pi 0,pi 0,pi 0,pi 0,pb false,pi 0,pi 0,.v (.slice none 0 0)])) (yei hg A B x hA hx hb) (.inl rfl) zz5 rfl zz4
   rwa [zy86 zz5] at h
theorem zzw (id:Int) (m:zak):zan Tryz.prog 161 [m.hv,.rp [pi id]] zad (zbj (m.id==id)) zad:=by
 refine zal mixed Tryz.func161 zz4 ?_;(conv=>whnf)
theorem yjm (f:Nat->Path->Path) (A:List Path) (p:Path) (B:List Path):(A++[p]).mapIdx f++B=A.mapIdx f++f A.length p::B:=by
 rw [zy102];simp
theorem ycv (s:zag)  (h3:Sco.zev s.out) (h4:s.paths.length<2 ^ 22):zan Tryz.prog 78 [.ptr 1000 0] (lk .free (pH0 s )) (.tup []) (lk .free (pD0 (zck s) )):=by
 refine zaq mixed Tryz.func78 zz4 [1000,1001,1002,1003,1004,1005,1006] zbq ?_;(conv=>whnf);refine ⟨{x:List Path×List Path // s.paths=x.1++x.2},fun | ⟨(A,B),_⟩=>hsP [1000,1001,1002,1003,1004,1005,1006] 25 [(0,.ptr 1000 0),(7,i64 s.paths.length),(8,i64 A.length)] (pH0 {s with paths:=A.mapIdx (flP s.out)++B} ),fun x=>x.1.2.length,⟨([],s.paths),rfl⟩,?_,?_⟩
 . exact (zcc (pK7 []) zz2)
 rintro ⟨⟨A,B⟩,h⟩;dsimp only at h;(conv=>whnf);cases B with
 | cons p B =>
  have hz:=zay h;refine sT ?_
  (refine cL ?_;refine dL (Sco.zoy s.out A.length h3) ?_)
  refine sOm ?_;refine zaj (a:=A.mapIdx (flP s.out)) (b:=B) (s:=p) rfl zz5 (zw ?_);refine sD ?_;refine sF ?_;exact ⟨⟨(A++[p],B),zae h⟩,(zcc (pK7 []) zz49),by simp⟩
 | nil =>
  have hz:=zbk h;rw [zy5] at h;refine sN ?_
  (exact zcx (pK7 [(0,some 1001),(1,some 1002),(2,some 1003),(3,some 1004),(4,some 1005),(5,some 1006)]) zz47)
theorem zqm (s:zag)  (h3:Sco.zev s.out) (h4:s.paths.length<2 ^ 22):zan Tryz.prog 78 [.ptr 1000 0] (lk .free (pH3 s )) (.tup []) (lk .free (pD3 (zck s) )):=by
 refine zaq mixed Tryz.func78 zz4 [1000,1001,1002,1003,1004,1005,1006,1007] zbq ?_;(conv=>whnf);refine ⟨{x:List Path×List Path // s.paths=x.1++x.2},fun | ⟨(A,B),_⟩=>hsP [1000,1001,1002,1003,1004,1005,1006,1007] 25 [(0,.ptr 1000 0),(7,i64 s.paths.length),(8,i64 A.length)] (pH3 {s with paths:=A.mapIdx (flP s.out)++B} ),fun x=>x.1.2.length,⟨([],s.paths),rfl⟩,?_,?_⟩
 . exact (zcc (pK8 []) zz2)
 exact yy34
theorem zqn (s:zag)  (h3:Sco.zev s.out) (h4:s.paths.length<2 ^ 22):zan Tryz.prog 78 [.ptr 1000 0] (lk .free (pH4 s )) (.tup []) (lk .free (pD4 (zck s) )):=by
 refine zaq mixed Tryz.func78 zz4 [1000,1001,1002,1003,1004,1005,1006,1007] zbq ?_;(conv=>whnf);refine ⟨{x:List Path×List Path // s.paths=x.1++x.2},fun | ⟨(A,B),_⟩=>hsP [1000,1001,1002,1003,1004,1005,1006,1007] 25 [(0,.ptr 1000 0),(7,i64 s.paths.length),(8,i64 A.length)] (pH4 {s with paths:=A.mapIdx (flP s.out)++B} ),fun x=>x.1.2.length,⟨([],s.paths),rfl⟩,?_,?_⟩
 . exact (zcc (pK8 []) zz2)
 exact yy34
end Snd
namespace Snd
open Ser
theorem yzg (id:Int) (s:zag) (m:zak):(zfb id s m).out.length<=s.out.length+1/\Sco.total (zfb id s m).out=Sco.total s.out:=by
 unfold zfb;split
 . simp [Sco.total,zpp]
 . exact ⟨by omega,rfl⟩
theorem yay (id:Int):∀ (q:List zak) (s:zag),(q.foldl (zfb id) s).out.length<=s.out.length+q.length/\Sco.total (q.foldl (zfb id) s).out=Sco.total s.out
 | [],s=>⟨by simp,rfl⟩
 | m::q,s=>by
  obtain ⟨h1,h2⟩:=yzg id s m;obtain ⟨h3,h4⟩:=yay id q (zfb id s m);simp only [zy50,zy6];exact ⟨by omega,by omega⟩
theorem zyp (id:Int) (s:zag) (m:zak):zfb id s m={s with out:=(zfb id s m).out,next:=(zfb id s m).next}:=by
 unfold zfb;split<;>rfl
theorem znh (id:Int):∀ (q:List zak) (s:zag),q.foldl (zfb id) s={s with out:=(q.foldl (zfb id) s).out,next:=(q.foldl (zfb id) s).next}
 | [],s=>rfl
 | m::q,s=>by
  have h1:=zyp id s m;have h2:=znh id q (zfb id s m);simp only [zy50];rw [h2];generalize q.foldl (zfb id) (zfb id s m)=z;rw [h1]
theorem zki (id:Int) (l:List zbo):Sco.total (l.map (Sco.zgr id))=Sco.total l:=by
 have:∀ s:zbo,(Sco.zgr id s).chunk=s.chunk:=fun s=>by unfold Sco.zgr;split<;>rfl
 simp only [Sco.total,zy113];congr 1;exact zy93 fun s _=>by simp [this]
def zkg (s:zag) (id:Nat) (o:List zbo) (n:Int):zag:={s with fates:=s.fates.set id 3,out:=o,next:=n}
theorem ytn (s:zag) (id:Nat) (q:List zak):∃ o n,q.foldl (zfb id) {s with fates:=s.fates.set id 3}=zkg s id o n/\o.length<=s.out.length+q.length/\Sco.total o=Sco.total s.out:=by
 have h1:=znh id q {s with fates:=s.fates.set id 3};obtain ⟨h2,h3⟩:=yay id q {s with fates:=s.fates.set id 3};exact ⟨_,_,h1,h2,h3⟩
theorem zwy (s:zag)  (id:Nat) (hs:Fit s) (hid:id<s.fates.length) (h9:s.out.length<2 ^ 30):zan Tryz.prog 131 [.ptr 1000 0,i64 id] (lk .free (pH3 s )) (.tup []) (lk .free (pD3 (zfc s id) )):=by
 obtain ⟨h1,h2,h3,h4,h5,h6,h7⟩:=hs;have hg:zfc s id=zck {(s.queue.foldl (zfb id) {s with fates:=s.fates.set id 3}) with queue:=s.queue.filter fun m=>decide (m.id≠id),sched:=if s.sched.hand=id then {s.sched with hand:=-1} else s.sched,out:=(s.queue.foldl (zfb id) {s with fates:=s.fates.set id 3}).out.map (Sco.zgr id),forward:=true}:=rfl;refine zaq mixed Tryz.func131 zz4 [1000,1001,1002,1003,1004,1005,1006,1007] zbq ?_;(conv=>whnf);refine sO ?_;refine zca id rfl hid (zw ?_);refine sD ?_;refine ⟨{x:(List zak×List zak)×List zbo×Int // s.queue=x.1.1++x.1.2/\x.1.1.foldl (zfb id) {s with fates:=s.fates.set id 3}=zkg s id x.2.1 x.2.2/\x.2.1.length<=s.out.length+x.1.1.length/\Sco.total x.2.1=Sco.total s.out},
  fun | ⟨((A,B),o,n),_⟩=>hsP [1000,1001,1002,1003,1004,1005,1006,1007] 121 [(0,.ptr 1000 0),(3,.ptr 3 0),(17,.own 1001),(18,i64 s.queue.length),(19,i64 A.length)] (xhl (zkg s id o n)  1001 1002 900 1004 1005 1006 1007 [(1003,.dead),(3,.live (.cells 3 [i64 id]))]),fun x=>x.1.1.2.length,⟨(([],s.queue),s.out,s.next),rfl,rfl,by simp,rfl⟩,?_,?_⟩
 . exact (zcc (pK8 ((900,some 1003)::[(3,some 3)])) zz59)
 rintro ⟨⟨⟨A,B⟩,o,n⟩,k1,k2,k3,k4⟩;dsimp only at k1 k2 k3 k4;(conv=>whnf);cases B with
 | cons m B =>
  exact yy14
 | nil =>
  have hz:=zbk k1;rw [zy5] at k1;rw [<- k1] at k2;rw [hg,k2];refine sN ?_
  (refine zaf [false,true] [(1000,1001)] [(0,85)] ?_;(conv=>whnf);refine dG (zyo (fun m=>zzw id m) s.queue zz0) ?_)
  have hsz:Sco.zev o:=⟨by omega,by rw [k4];exact h3.bytes⟩
  by_cases c1:s.sched.hand=id
  . rw [zy1 c1]
    refine sD ?_;refine zac ?_ ?_
    . simp [zkg,c1]
    conv=>whnf
    repeat refine sG ?_
    (refine zat [(0,109)] ?_;(conv=>whnf);refine dO (Sco.zqo o id hsz) ?_)
    refine sD ?_
    (refine zaf [] [(1000,1000),(1001,85),(1002,1002),(1003,109),(1004,1004),(1005,1005),(1006,1006),(1007,1007)] [(0,910),(1,911),(2,912),(3,913),(4,914),(5,915)] ?_;(conv=>whnf);refine dG (zqm {(zkg s id o n) with queue:=s.queue.filter fun m=>!(m.id==(id:Int)),sched:={s.sched with hand:=-1},out:=o.map (Sco.zgr id)}  ⟨by simp;exact hsz.len,by rw [zki];exact hsz.bytes⟩ h4) ?_)
    exact yy61
  . rw [zy0 c1]
    refine sD ?_;refine zab ?_ ?_
    . simp [zkg,c1]
    conv=>whnf
    repeat refine sG ?_
    (refine zat [(0,109)] ?_;(conv=>whnf);refine dO (Sco.zqo o id hsz) ?_)
    refine sD ?_
    (refine zaf [] [(1000,1000),(1001,85),(1002,1002),(1003,109),(1004,1004),(1005,1005),(1006,1006),(1007,1007)] [(0,910),(1,911),(2,912),(3,913),(4,914),(5,915)] ?_;(conv=>whnf);refine dG (zqm {(zkg s id o n) with queue:=s.queue.filter fun m=>!(m.id==(id:Int)),sched:=s.sched,out:=o.map (Sco.zgr id)}  ⟨by simp;exact hsz.len,by rw [zki];exact hsz.bytes⟩ h4) ?_)
    exact yy61
theorem zwz (s:zag)  (id:Nat) (hs:Fit s) (hid:id<s.fates.length) (h9:s.out.length<2 ^ 30):zan Tryz.prog 131 [.ptr 1000 0,i64 id] (lk .free (pH4 s )) (.tup []) (lk .free (pD4 (zfc s id) )):=by
 obtain ⟨h1,h2,h3,h4,h5,h6,h7⟩:=hs;have hg:zfc s id=zck {(s.queue.foldl (zfb id) {s with fates:=s.fates.set id 3}) with queue:=s.queue.filter fun m=>decide (m.id≠id),sched:=if s.sched.hand=id then {s.sched with hand:=-1} else s.sched,out:=(s.queue.foldl (zfb id) {s with fates:=s.fates.set id 3}).out.map (Sco.zgr id),forward:=true}:=rfl;refine zaq mixed Tryz.func131 zz4 [1000,1001,1002,1003,1004,1005,1006,1007] zbq ?_;(conv=>whnf);refine sO ?_;refine zca id rfl hid (zw ?_);refine sD ?_;refine ⟨{x:(List zak×List zak)×List zbo×Int // s.queue=x.1.1++x.1.2/\x.1.1.foldl (zfb id) {s with fates:=s.fates.set id 3}=zkg s id x.2.1 x.2.2/\x.2.1.length<=s.out.length+x.1.1.length/\Sco.total x.2.1=Sco.total s.out},
  fun | ⟨((A,B),o,n),_⟩=>hsP [1000,1001,1002,1003,1004,1005,1006,1007] 121 [(0,.ptr 1000 0),(3,.ptr 3 0),(17,.own 1001),(18,i64 s.queue.length),(19,i64 A.length)] (xhm (zkg s id o n)  1001 1002 900 1004 1005 1006 1007 [(1003,.dead),(3,.live (.cells 3 [i64 id]))]),fun x=>x.1.1.2.length,⟨(([],s.queue),s.out,s.next),rfl,rfl,by simp,rfl⟩,?_,?_⟩
 . exact (zcc (pK8 ((900,some 1003)::[(3,some 3)])) zz59)
 rintro ⟨⟨⟨A,B⟩,o,n⟩,k1,k2,k3,k4⟩;dsimp only at k1 k2 k3 k4;(conv=>whnf);cases B with
 | cons m B =>
  exact yy14
 | nil =>
  have hz:=zbk k1;rw [zy5] at k1;rw [<- k1] at k2;rw [hg,k2];refine sN ?_
  (refine zaf [false,true] [(1000,1001)] [(0,85)] ?_;(conv=>whnf);refine dG (zyo (fun m=>zzw id m) s.queue zz0) ?_)
  have hsz:Sco.zev o:=⟨by omega,by rw [k4];exact h3.bytes⟩
  by_cases c1:s.sched.hand=id
  . rw [zy1 c1]
    refine sD ?_;refine zac ?_ ?_
    . simp [zkg,c1]
    conv=>whnf
    repeat refine sG ?_
    (refine zat [(0,109)] ?_;(conv=>whnf);refine dO (Sco.zqo o id hsz) ?_)
    refine sD ?_
    (refine zaf [] [(1000,1000),(1001,85),(1002,1002),(1003,109),(1004,1004),(1005,1005),(1006,1006),(1007,1007)] [(0,910),(1,911),(2,912),(3,913),(4,914),(5,915)] ?_;(conv=>whnf);refine dG (zqn {(zkg s id o n) with queue:=s.queue.filter fun m=>!(m.id==(id:Int)),sched:={s.sched with hand:=-1},out:=o.map (Sco.zgr id)}  ⟨by simp;exact hsz.len,by rw [zki];exact hsz.bytes⟩ h4) ?_)
    exact yy61
  . rw [zy0 c1]
    refine sD ?_;refine zab ?_ ?_
    . simp [zkg,c1]
    conv=>whnf
    repeat refine sG ?_
    (refine zat [(0,109)] ?_;(conv=>whnf);refine dO (Sco.zqo o id hsz) ?_)
    refine sD ?_
    (refine zaf [] [(1000,1000),(1001,85),(1002,1002),(1003,109),(1004,1004),(1005,1005),(1006,1006),(1007,1007)] [(0,910),(1,911),(2,912),(3,913),(4,914),(5,915)] ?_;(conv=>whnf);refine dG (zqn {(zkg s id o n) with queue:=s.queue.filter fun m=>!(m.id==(id:Int)),sched:=s.sched,out:=o.map (Sco.zgr id)}  ⟨by simp;exact hsz.len,by rw [zki];exact hsz.bytes⟩ h4) ?_)
    exact yy61
end Snd
namespace Snd
open Ser
theorem zam {α:Type} {f:α->List PV} {l:List α} {i:Nat} {x:α} {z:Int} {K:List PV->Prop} (hx:l[i]?=some x) (hz:z=i) (hk:K (f x)):zpw (l.map f) z K :=
 ⟨_,by omega,by rw [hz,zy22,zy17,hx];rfl,hk⟩
theorem zfg {α:Type} {t n:Nat} {f:α->List PV} {l:List α} {k:Nat} {y:α} {r:List PV} (hr:f y=r):zai.live (.row t n ((l.map f).set k r))=zai.live (.row t n ((l.set k y).map f)):=by
 rw [<- hr,zy62]
theorem ycn {α:Type} {t n:Nat} {f:α->List PV} {l:List α} {k:Nat} {y:α} {r r1 r2 r3:List PV} (hr:f y=r):zai.live (.row t n (((((l.map f).set k r1).set k r2).set k r3).set k r))=zai.live (.row t n ((l.set k y).map f)):=by
 rw [zy140,zy140,zy140];exact zfg hr
theorem ycm {t:TypeId} {l:List Path} {k:Nat} {w:Path} {d:List UInt8}:zai.live (.row t 7 ((l.map Path.row).set k [pi w.window,pi w.slow,pi w.gathered,pi (W (w.zba+((d.map zco).length:Int))),pi w.errors,pi w.zcs,pi w.wait]))=zai.live (.row t 7 ((l.set k {w with zba:=W (w.zba+d.length)}).map Path.row)):=by
 rw [zy2];exact zfg rfl
def zxy (s:zag) (i path:Nat) (x:zbo) (a:Path):zag:={s with out:=s.out.set i (zsz x path),paths:=s.paths.set path {a with zba:=W (a.zba+x.chunk.data.length)}}
theorem zyr {s:zag} {o:List (List Chunk)} {i path:Nat} {x:zbo} {a:Path} {l:List Chunk} (hx:s.out[i]?=some x) (ha:s.paths[path]?=some a) (hl:o[path]?=some l) :
 fly ⟨s,o⟩ i path=⟨zxy s i path x a,o.set path (l++[x.chunk])⟩:=by
 simp only [fly,hx,setAt,ha,hl,zxy]
theorem zoz (s:zag) (a:List Chunk) (i:Nat) (x:zbo) (w:Path) (hx:s.out[i]?=some x) (ha:s.paths[0]?=some w) (hb:a.length<2 ^ 30) :
 zan Tryz.prog 134 [.ptr 1000 0,.eptr 1003 20 i 0,i64 0] (lk .free (pH1 s a)) (.tup []) (lk .free (xgb (zxy s i 0 x w) (a++[x.chunk]) 1001 1002 1003 1004 1005 1006 1007 0 [(1008,.dead)])):=by
 refine zaq mixed Tryz.func134 zz4 [1000,1001,1002,1003,1004,1005,1006,1007,1008] zbq ?_;have hi:i<s.out.length:=(zy8.1 hx).1;have hp:0<s.paths.length:=(zy8.1 ha).1;(conv=>whnf);refine zam hx rfl (zw ?_);refine zcg rfl zz3 (zw ?_);refine zcg rfl zz3 (zw ?_);refine zcg rfl zz3 (zw ?_);refine sR ?_;refine zcg rfl zz3 (zw ?_);refine sOm ?_;refine zam ha rfl (zw ?_);refine zcg rfl zz3 (zw ?_);refine sR ?_;refine sOm ?_;refine zam ha rfl (zw ?_);refine sD ?_;refine ⟨0,rfl,by decide,zw ?_⟩;refine zcg rfl zz3 (zw ?_);refine zaa (c:=((a.map Chunk.row).length+1)*128<=140737488355328) zz3 (zw ?_);refine ⟨0,rfl,by decide,zw ?_⟩;refine sD ?_
 (exact zcx (pK9 [(0,some 58)]) zz34)
theorem zpa (s:zag) (a b:List Chunk) (i:Nat) (x:zbo) (w:Path) (hx:s.out[i]?=some x) (ha:s.paths[0]?=some w) (hb:a.length<2 ^ 30) :
 zan Tryz.prog 134 [.ptr 1000 0,.eptr 1003 20 i 0,i64 0] (lk .free (pH2 s a b)) (.tup []) (lk .free (xcy (zxy s i 0 x w) (a++[x.chunk]) b 1001 1002 1003 1004 1005 1006 1007 0 1009 [(1008,.dead)])):=by
 refine zaq mixed Tryz.func134 zz4 [1000,1001,1002,1003,1004,1005,1006,1007,1008,1009] zbq ?_;have hi:i<s.out.length:=(zy8.1 hx).1;have hp:0<s.paths.length:=(zy8.1 ha).1;(conv=>whnf);refine zam hx rfl (zw ?_);refine zcg rfl zz3 (zw ?_);refine zcg rfl zz3 (zw ?_);refine zcg rfl zz3 (zw ?_);refine sR ?_;refine zcg rfl zz3 (zw ?_);refine sOm ?_;refine zam ha rfl (zw ?_);refine zcg rfl zz3 (zw ?_);refine sR ?_;refine sOm ?_;refine zam ha rfl (zw ?_);refine sD ?_;refine ⟨0,rfl,by decide,zw ?_⟩;refine zcg rfl zz3 (zw ?_);refine zaa (c:=((a.map Chunk.row).length+1)*128<=140737488355328) zz3 (zw ?_);refine ⟨0,rfl,by decide,zw ?_⟩;refine sD ?_
 (exact zcx (zic [(0,some 58)]) zz34)
theorem zpb (s:zag) (a b:List Chunk) (i:Nat) (x:zbo) (w:Path) (hx:s.out[i]?=some x) (ha:s.paths[1]?=some w) (hb:b.length<2 ^ 30) :
 zan Tryz.prog 134 [.ptr 1000 0,.eptr 1003 20 i 0,i64 1] (lk .free (pH2 s a b)) (.tup []) (lk .free (xcy (zxy s i 1 x w) a (b++[x.chunk]) 1001 1002 1003 1004 1005 1006 1007 1008 0 [(1009,.dead)])):=by
 refine zaq mixed Tryz.func134 zz4 [1000,1001,1002,1003,1004,1005,1006,1007,1008,1009] zbq ?_;have hi:i<s.out.length:=(zy8.1 hx).1;have hp:1<s.paths.length:=(zy8.1 ha).1;(conv=>whnf);refine zam hx rfl (zw ?_);refine zcg rfl zz3 (zw ?_);refine zcg rfl zz3 (zw ?_);refine zcg rfl zz3 (zw ?_);refine sR ?_;refine zcg rfl zz3 (zw ?_);refine sOm ?_;refine zam ha rfl (zw ?_);refine zcg rfl zz3 (zw ?_);refine sR ?_;refine sOm ?_;refine zam ha rfl (zw ?_);refine sD ?_;refine ⟨1,rfl,by decide,zw ?_⟩;refine zcg rfl zz3 (zw ?_);refine zaa (c:=((b.map Chunk.row).length+1)*128<=140737488355328) zz3 (zw ?_);refine ⟨1,rfl,by decide,zw ?_⟩;refine sD ?_
 (exact zcx (zic [(0,some 58)]) zz34)
end Snd
namespace Snd
open Ser
def zix (s:zag) (k:Nat) (m:zak):zag:={s with queue:=s.queue.set k {m with mid:=zdg s m},mids:=zdt s m}
structure xih (s:zag) (m:zak):Prop where
 lo:0<=m.message.stream
 hi:m.message.stream<2 ^ 40
 lo2:0<=s.config.streams
 hi2:s.config.streams<2 ^ 40
 at_:m.mid<0->zgu s m<s.mids.length
theorem zlf {α:Type} {l:List α} {k:Nat} {x:α} (h:l[k]?=some x):l.set k x=l:=by
 obtain ⟨hk,rfl⟩:=zy8.1 h;exact List.set_getElem_self hk
theorem ygd {s:zag} {k:Nat} {m:zak} (hk:s.queue[k]?=some m) (h:zdg s m=m.mid):(zix s k m).queue=s.queue:=by
 show s.queue.set k {m with mid:=zdg s m}=_;rw [h];exact zlf hk
theorem ybv {s:zag} {k:Nat} {m:zak} {v:Int} {t:TypeId} (h:zdg s m=v):zai.live (.row t 10 ((s.queue.map zak.row).set k ({m with mid:=v}:zak).row))=zai.live (.row t 10 ((zix s k m).queue.map zak.row)):=by
 rw [<- h];exact zfg rfl
theorem yia (s:zag) (a:List Chunk) (k:Nat) (m:zak) (hk:s.queue[k]?=some m) (hf:xih s m) :
 zan Tryz.prog 137 [.ptr 1000 0,.eptr 1001 10 k 0] (lk .free (pH1 s a)) (i64 (zdg s m)) (lk .free (pH1 (zix s k m) a)):=by
 obtain ⟨f1,f2,f3,f4,f5⟩:=hf;have hk':k<s.queue.length:=(zy8.1 hk).1;refine zaq mixed Tryz.func137 zz4 [1000,1001,1002,1003,1004,1005,1006,1007,1008] zbq ?_;(conv=>whnf);refine zhw.go (zw ?_);refine zam hk rfl (zw ?_);by_cases c1:m.mid<0
 . have f5:=f5 c1
   obtain ⟨v,hv⟩:∃ v,s.mids[zgu s m]?=some v:=⟨_,zy3 f5⟩
   have hmo:zdg s m=v:=by rw [zdg,zy1 c1,hv];rfl
   have hms:zdt s m=s.mids.set (zgu s m) (W (v+1)):=by rw [zdt,zy1 c1,setAt,hv]
   refine sT ?_;refine zam hk rfl (zw ?_)
   repeat refine sG ?_
   refine zam hk rfl (zw ?_)
   repeat refine sG ?_
   cases c2:m.message.ordered with
   | true =>
    have hat:zgu s m=m.message.stream.toNat:=by rw [zgu,c2];simp
    conv=>whnf
    repeat refine sG ?_
    exact yy68
   | false =>
    have hat:zgu s m=(m.message.stream+s.config.streams).toNat:=by rw [zgu,c2];simp
    conv=>whnf
    repeat refine sG ?_
    refine sF ?_;exact yy68
 . refine sN ?_
   repeat refine sG ?_
   refine zam hk rfl (zw ?_);have hmo:zdg s m=m.mid:=by rw [zdg,zy0 c1]
   have hms:zdt s m=s.mids:=by rw [zdt,zy0 c1]
   (exact zcx (pK9 []) zz42)
theorem zqq (s:zag) (a b:List Chunk) (k:Nat) (m:zak) (hk:s.queue[k]?=some m) (hf:xih s m) :
 zan Tryz.prog 137 [.ptr 1000 0,.eptr 1001 10 k 0] (lk .free (pH2 s a b)) (i64 (zdg s m)) (lk .free (pH2 (zix s k m) a b)):=by
 obtain ⟨f1,f2,f3,f4,f5⟩:=hf;have hk':k<s.queue.length:=(zy8.1 hk).1;refine zaq mixed Tryz.func137 zz4 [1000,1001,1002,1003,1004,1005,1006,1007,1008,1009] zbq ?_;(conv=>whnf);refine zhw.go (zw ?_);refine zam hk rfl (zw ?_);by_cases c1:m.mid<0
 . have f5:=f5 c1
   obtain ⟨v,hv⟩:∃ v,s.mids[zgu s m]?=some v:=⟨_,zy3 f5⟩
   have hmo:zdg s m=v:=by rw [zdg,zy1 c1,hv];rfl
   have hms:zdt s m=s.mids.set (zgu s m) (W (v+1)):=by rw [zdt,zy1 c1,setAt,hv]
   refine sT ?_;refine zam hk rfl (zw ?_)
   repeat refine sG ?_
   refine zam hk rfl (zw ?_)
   repeat refine sG ?_
   cases c2:m.message.ordered with
   | true =>
    have hat:zgu s m=m.message.stream.toNat:=by rw [zgu,c2];simp
    conv=>whnf
    repeat refine sG ?_
    exact yy69
   | false =>
    have hat:zgu s m=(m.message.stream+s.config.streams).toNat:=by rw [zgu,c2];simp
    conv=>whnf
    repeat refine sG ?_
    refine sF ?_;exact yy69
 . refine sN ?_
   repeat refine sG ?_
   refine zam hk rfl (zw ?_);have hmo:zdg s m=m.mid:=by rw [zdg,zy0 c1]
   have hms:zdt s m=s.mids:=by rw [zdt,zy0 c1]
   (exact zcx (zic []) zz42)
end Snd
namespace Snd
open Ser
theorem yzh (id:Int) (s:zag) (m:zak):(zfb id s m).out.length=s.out.length+(if m.id=id/\m.parts>0 then 1 else 0):=by
 unfold zfb;split<;>simp
theorem ymk (id:Int):∀ (q:List zak) (s:zag),(q.foldl (zfb id) s).out.length+(q.filter fun m=>decide (m.id≠id)).length<=s.out.length+q.length
 | [],s=>by simp
 | m::q,s=>by
  have h1:=yzh id s m;have h2:=ymk id q (zfb id s m);rw [zy50,zy49,zy6];by_cases c:m.id=id
  . simp [c] at h1 h2 ⊢;split at h1<;>omega
  . simp [c] at h1 h2 ⊢;omega
theorem ymh (id:Int):∀ (q:List zak) (s:zag),∀ x∈(q.foldl (zfb id) s).out,x∈s.out\/x.id=id
 | [],s,x,h=>.inl h
 | m::q,s,x,h=>by
  rcases ymh id q (zfb id s m) x h with h | h
  . unfold zfb at h
    split at h
    . rename_i c
      rcases zy21.1 h with h | h
      . exact .inl h
      . rw [zy23] at h;subst h;exact .inr c.1
    . exact .inl h
  . exact .inr h
structure ylw (s:zag):Prop where
 fit:Fit s
 sum:s.out.length+s.queue.length<2 ^ 30
 qid:∀ m∈s.queue,0<=m.id/\m.id<s.fates.length
 xid:∀ x∈s.out,0<=x.id/\x.id<s.fates.length
structure Rest (s t:zag):Prop where
 config:t.config=s.config
 clock:t.clock=s.clock
 had:t.sched.had=s.sched.had
 paths:t.paths.length=s.paths.length
 cum:t.cum=s.cum
 room:t.room=s.room
 mids:t.mids=s.mids
 fates:t.fates.length=s.fates.length
 sum:t.out.length+t.queue.length<=s.out.length+s.queue.length
theorem Rest.refl (s:zag):Rest s s:=⟨rfl,rfl,rfl,rfl,rfl,rfl,rfl,rfl,zy24 _⟩
theorem Rest.trans {a b c:zag} (h:Rest a b) (k:Rest b c):Rest a c:=⟨k.config.trans h.config,k.clock.trans h.clock,k.had.trans h.had,k.paths.trans h.paths,k.cum.trans h.cum,k.room.trans h.room,k.mids.trans h.mids,k.fates.trans h.fates,zy94 k.sum h.sum⟩
theorem zkh (s:zag) (id:Nat):Rest s (zfc s id)/\Sco.total (zfc s id).out=Sco.total s.out/\(∀ m∈(zfc s id).queue,m∈s.queue)/\(∀ x∈(zfc s id).out,x.id=id\/∃ y∈s.out,y.id=x.id):=by
 obtain ⟨o,n,h1,h2,h3⟩:=ytn s id s.queue;have hs:=ymk id s.queue {s with fates:=s.fates.set id 3};have hm:=ymh id s.queue {s with fates:=s.fates.set id 3};rw [h1] at hs hm;have hg:zfc s id=zck {(zkg s id o n) with queue:=s.queue.filter fun m=>decide (m.id≠id),sched:=if s.sched.hand=id then {s.sched with hand:=-1} else s.sched,out:=o.map (Sco.zgr id),forward:=true}:=by
  show zck {(s.queue.foldl (zfb id) {s with fates:=s.fates.set id 3}) with queue:=s.queue.filter fun m=>decide (m.id≠id),sched:=if s.sched.hand=id then {s.sched with hand:=-1} else s.sched,out:=(s.queue.foldl (zfb id) {s with fates:=s.fates.set id 3}).out.map (Sco.zgr id),forward:=true}=_;rw [h1];rfl
 have hid:∀ y:zbo,(Sco.zgr id y).id=y.id:=fun y=>by unfold Sco.zgr;split<;>rfl
 rw [hg];refine ⟨⟨rfl,rfl,?_,?_,rfl,rfl,rfl,?_,?_⟩,?_,?_,?_⟩
 . show (if s.sched.hand=id then {s.sched with hand:=-1} else s.sched:zhv).had=_;split<;>rfl
 . show (s.paths.mapIdx _).length=_;simp
 . show (s.fates.set id 3).length=_;simp
 . show (o.map (Sco.zgr id)).length+_<=_
   rw [zy2];exact hs
 . show Sco.total (o.map (Sco.zgr id))=_
   rw [zki,h3]
 . intro m h;exact (zy136.1 h).1
 . intro x h
   obtain ⟨y,hy,rfl⟩:=zy37.1 h;rcases hm y hy with h | h
   . exact .inr ⟨y,h,(hid y).symm⟩
   . exact .inl ((hid y).trans h)
theorem ybf {s:zag} (h:ylw s) {id:Nat} (hid:id<s.fates.length):ylw (zfc s id):=by
 obtain ⟨r,h1,h2,h3⟩:=zkh s id;obtain ⟨⟨f1,f2,f3,f4,f5,f6,f7⟩,g2,g3,g4⟩:=h;have hs:=r.sum;have hq:(zfc s id).queue.length<=s.queue.length:=by
  have:(zfc s id).queue=s.queue.filter fun m:zak=>decide (m.id≠(id:Int)):=rfl
  rw [this];exact zy27 _ _
 refine ⟨⟨by omega,by rw [r.had];exact f2,⟨by omega,by rw [h1];exact f3.bytes⟩,by rw [r.paths];exact f4,by rw [r.mids];exact f5,by rw [r.fates];exact f6,fun m hm=>f7 m (h2 m hm)⟩,by omega,fun m hm=>by rw [r.fates];exact g3 m (h2 m hm),fun x hx=>?_⟩;rw [r.fates];rcases h3 x hx with e | ⟨y,hy,e⟩
 . rw [e];omega
 . rw [<- e];exact g4 y hy
theorem yaz {s:zag} (h:ylw s) {m:zak} (hm:0<=m.id/\m.id<s.fates.length):ylw (zkx s m)/\Rest s (zkx s m):=by
 unfold zkx;split
 . obtain ⟨k,hk⟩:∃ k:Nat,m.id=k:=⟨m.id.toNat,by omega⟩
   rw [hk];exact ⟨ybf h zz0,(zkh s k).1⟩
 . exact ⟨h,Rest.refl s⟩
theorem yba {s:zag} (h:ylw s) {x:zbo} (hm:0<=x.id/\x.id<s.fates.length):ylw (zhd s x)/\Rest s (zhd s x):=by
 unfold zhd;split
 . obtain ⟨k,hk⟩:∃ k:Nat,x.id=k:=⟨x.id.toNat,by omega⟩
   rw [hk];exact ⟨ybf h zz0,(zkh s k).1⟩
 . exact ⟨h,Rest.refl s⟩
theorem yhv (s:zag)  (hs:ylw s):zan Tryz.prog 93 [.ptr 1000 0] (lk .free (pH3 s )) (.tup []) (lk .free (pD3 (expire s) )):=by
 have hs':=hs;obtain ⟨⟨h1,h2,h3,h4,h5,h6,h7⟩,g2,g3,g4⟩:=hs;generalize hE:expire s=E;refine zaq mixed Tryz.func93 zz4 [1000,1001,1002,1003,1004,1005,1006,1007] zbq ?_;(conv=>whnf)
 (refine zaf [] [(1000,1001)] [(0,11)] ?_;(conv=>whnf);refine dG (xcd s.queue zz0) ?_)
 refine ⟨{x:(List zak×List zak)×zag // s.queue=x.1.1++x.1.2/\x.1.1.foldl zkx s=x.2/\ylw x.2/\Rest s x.2},
  fun | ⟨((A,B),t),_⟩=>hsP [1000,1001,1002,1003,1004,1005,1006,1007] 85 [(0,.ptr 1000 0),(11,.own 11),(12,i64 s.queue.length),(13,i64 A.length)] (xhl t  900 901 902 903 904 905 1007 [(1001,.dead),(1002,.dead),(1003,.dead),(1004,.dead),(1005,.dead),(1006,.dead),(11,xcx s.queue)]),fun x=>x.1.1.2.length,⟨(([],s.queue),s),rfl,rfl,hs',Rest.refl s⟩,?_,?_⟩
 . exact (zdj (pK8 ((900,some 1001)::(901,some 1002)::(902,some 1003)::(903,some 1004)::(904,some 1005)::(905,some 1006)::[(11,some 11)])))
 rintro ⟨⟨⟨A,B⟩,t⟩,k1,k2,k3,k4⟩;dsimp only at k1 k2 k3 k4;refine zbx fun Q hQ=>?_
 (conv=>whnf);cases B with
 | cons m B =>
  have hz:=zay k1;have zcq:(A++[m]).foldl zkx s=zkx t m:=by rw [zy59,k2];rfl
  have hm:=g3 m (zgm k1);have ht:=k4.fates;obtain ⟨id,hid⟩:∃ k:Nat,m.id=k:=⟨m.id.toNat,by omega⟩
  obtain ⟨kn,kr⟩:=yaz k3 (m:=m) zz0;refine sT ?_;refine sO ?_;refine zaj k1 rfl (zw ?_)
  (refine zaf [] [(1000,1000),(1001,900),(1002,901),(1003,902),(1004,903),(1005,904),(1006,905),(1007,1007)] [] ?_;(conv=>whnf);refine dG (yie t  m.came m.message.life) ?_)
  cases ho:old t.clock m.came m.message.life with
  | true =>
   rw [zkx,zy1 ho] at zcq kn kr;have pg:=zwy t  id k3.fit zz0 zz141;exact yy35
  | false =>
   exact yy98
 | nil =>
  have hz:=zbk k1;rw [zy5] at k1;rw [<- k1] at k2;have hE2:t.out.foldl zhd t=E:=by rw [<- hE,expire,k2]
  have ko:=k3.sum;refine sN ?_;refine hQ _ _ ?_;conv=>whnf
  (refine zaf [] [(1000,902)] [(0,34)] ?_;(conv=>whnf);refine dG (xce t.out zz0) ?_)
  refine ⟨{x:(List zbo×List zbo)×zag // t.out=x.1.1++x.1.2/\x.1.1.foldl zhd t=x.2/\ylw x.2/\Rest t x.2},
   fun | ⟨((A,B),u),_⟩=>hsP [1000,1001,1002,1003,1004,1005,1006,1007] 85 [(0,.ptr 1000 0),(34,.own 34),(35,i64 t.out.length),(36,i64 A.length)] (xhl u  900 901 902 903 904 905 1007 [(1001,.dead),(1002,.dead),(1003,.dead),(1004,.dead),(1005,.dead),(1006,.dead),(34,xfy t.out)]),fun x=>x.1.1.2.length,⟨(([],t.out),t),rfl,rfl,k3,Rest.refl t⟩,?_,?_⟩
  . exact (zdj (pK8 (pJ6 [(34,some 34)])))
  have g4:=k3.xid;clear hs' g3 g2 k4 k2 k1 hE hQ Q;rintro ⟨⟨⟨A,B⟩,u⟩,k1,k2,k3,k4⟩;dsimp only at k1 k2 k3 k4;refine zbx fun Q hQ=>?_
  (conv=>whnf);cases B with
  | cons x B =>
   have hz:=zay k1;have zcq:(A++[x]).foldl zhd t=zhd u x:=by rw [zy59,k2];rfl
   have hm:=g4 x (zgm k1);have ht:=k4.fates;obtain ⟨id,hid⟩:∃ k:Nat,x.id=k:=⟨x.id.toNat,by omega⟩
   obtain ⟨kn,kr⟩:=yba k3 (x:=x) zz0;have hidl:id<u.fates.length:=by omega
   have pg:=zwy u  id k3.fit hidl zz141;rw [<- hid] at pg;obtain ⟨f,hf⟩:∃ f,u.fates[id]?=some f:=⟨_,zy3 hidl⟩
   have hdue:xdq u x=(decide (f=1)&&(decide (x.state≠2)&&(old u.clock x.came x.life||(decide (x.state=3)&&(decide (x.tries>0)&&decide (x.times>x.tries)))))):=by
    unfold xdq;rw [hid,zy22,hf];rfl
   refine sT ?_;refine sO ?_;refine zaj k1 rfl (zw ?_);refine sOm ?_;refine zam hf zz0 (zw ?_);by_cases d1:f=1
   case neg =>
    refine zab ?_ ?_
    . simpa using d1
    (conv=>whnf);refine sD ?_
    repeat refine sG ?_
    refine sF ?_;refine hQ _ _ ?_;conv=>whnf
    rw [zhd,zy0 (by rw [hdue];simp [d1])] at zcq;exact yy21
   refine zac ?_ ?_
   . simpa using d1
   (conv=>whnf);by_cases d2:x.state=2
   case pos =>
    refine zab ?_ ?_
    . simpa using d2
    (conv=>whnf);refine sD ?_
    repeat refine sG ?_
    refine sF ?_;refine hQ _ _ ?_;conv=>whnf
    rw [zhd,zy0 (by rw [hdue];simp [d1,d2])] at zcq;exact yy21
   refine zac ?_ ?_
   . simpa using d2
   conv=>whnf
   (refine zaf [] [(1000,1000),(1001,900),(1002,901),(1003,902),(1004,903),(1005,904),(1006,905),(1007,1007)] [] ?_;(conv=>whnf);refine dG (yie u  x.came x.life) ?_)
   exact yy6
  | nil =>
   exact yy87
theorem yhw (s:zag)  (hs:ylw s):zan Tryz.prog 93 [.ptr 1000 0] (lk .free (pH4 s )) (.tup []) (lk .free (pD4 (expire s) )):=by
 have hs':=hs;obtain ⟨⟨h1,h2,h3,h4,h5,h6,h7⟩,g2,g3,g4⟩:=hs;generalize hE:expire s=E;refine zaq mixed Tryz.func93 zz4 [1000,1001,1002,1003,1004,1005,1006,1007] zbq ?_;(conv=>whnf)
 (refine zaf [] [(1000,1001)] [(0,11)] ?_;(conv=>whnf);refine dG (xcd s.queue zz0) ?_)
 refine ⟨{x:(List zak×List zak)×zag // s.queue=x.1.1++x.1.2/\x.1.1.foldl zkx s=x.2/\ylw x.2/\Rest s x.2},
  fun | ⟨((A,B),t),_⟩=>hsP [1000,1001,1002,1003,1004,1005,1006,1007] 85 [(0,.ptr 1000 0),(11,.own 11),(12,i64 s.queue.length),(13,i64 A.length)] (xhm t  900 901 902 903 904 905 1007 [(1001,.dead),(1002,.dead),(1003,.dead),(1004,.dead),(1005,.dead),(1006,.dead),(11,xcx s.queue)]),fun x=>x.1.1.2.length,⟨(([],s.queue),s),rfl,rfl,hs',Rest.refl s⟩,?_,?_⟩
 . exact (zdj (pK8 ((900,some 1001)::(901,some 1002)::(902,some 1003)::(903,some 1004)::(904,some 1005)::(905,some 1006)::[(11,some 11)])))
 rintro ⟨⟨⟨A,B⟩,t⟩,k1,k2,k3,k4⟩;dsimp only at k1 k2 k3 k4;refine zbx fun Q hQ=>?_
 (conv=>whnf);cases B with
 | cons m B =>
  have hz:=zay k1;have zcq:(A++[m]).foldl zkx s=zkx t m:=by rw [zy59,k2];rfl
  have hm:=g3 m (zgm k1);have ht:=k4.fates;obtain ⟨id,hid⟩:∃ k:Nat,m.id=k:=⟨m.id.toNat,by omega⟩
  obtain ⟨kn,kr⟩:=yaz k3 (m:=m) zz0;refine sT ?_;refine sO ?_;refine zaj k1 rfl (zw ?_)
  (refine zaf [] [(1000,1000),(1001,900),(1002,901),(1003,902),(1004,903),(1005,904),(1006,905),(1007,1007)] [] ?_;(conv=>whnf);refine dG (yif t  m.came m.message.life) ?_)
  cases ho:old t.clock m.came m.message.life with
  | true =>
   rw [zkx,zy1 ho] at zcq kn kr;have pg:=zwz t  id k3.fit zz0 zz141;exact yy35
  | false =>
   exact yy98
 | nil =>
  have hz:=zbk k1;rw [zy5] at k1;rw [<- k1] at k2;have hE2:t.out.foldl zhd t=E:=by rw [<- hE,expire,k2]
  have ko:=k3.sum;refine sN ?_;refine hQ _ _ ?_;conv=>whnf
  (refine zaf [] [(1000,902)] [(0,34)] ?_;(conv=>whnf);refine dG (xce t.out zz0) ?_)
  refine ⟨{x:(List zbo×List zbo)×zag // t.out=x.1.1++x.1.2/\x.1.1.foldl zhd t=x.2/\ylw x.2/\Rest t x.2},
   fun | ⟨((A,B),u),_⟩=>hsP [1000,1001,1002,1003,1004,1005,1006,1007] 85 [(0,.ptr 1000 0),(34,.own 34),(35,i64 t.out.length),(36,i64 A.length)] (xhm u  900 901 902 903 904 905 1007 [(1001,.dead),(1002,.dead),(1003,.dead),(1004,.dead),(1005,.dead),(1006,.dead),(34,xfy t.out)]),fun x=>x.1.1.2.length,⟨(([],t.out),t),rfl,rfl,k3,Rest.refl t⟩,?_,?_⟩
  . exact (zdj (pK8 (pJ6 [(34,some 34)])))
  have g4:=k3.xid;clear hs' g3 g2 k4 k2 k1 hE hQ Q;rintro ⟨⟨⟨A,B⟩,u⟩,k1,k2,k3,k4⟩;dsimp only at k1 k2 k3 k4;refine zbx fun Q hQ=>?_
  (conv=>whnf);cases B with
  | cons x B =>
   have hz:=zay k1;have zcq:(A++[x]).foldl zhd t=zhd u x:=by rw [zy59,k2];rfl
   have hm:=g4 x (zgm k1);have ht:=k4.fates;obtain ⟨id,hid⟩:∃ k:Nat,x.id=k:=⟨x.id.toNat,by omega⟩
   obtain ⟨kn,kr⟩:=yba k3 (x:=x) zz0;have hidl:id<u.fates.length:=by omega
   have pg:=zwz u  id k3.fit hidl zz141;rw [<- hid] at pg;obtain ⟨f,hf⟩:∃ f,u.fates[id]?=some f:=⟨_,zy3 hidl⟩
   have hdue:xdq u x=(decide (f=1)&&(decide (x.state≠2)&&(old u.clock x.came x.life||(decide (x.state=3)&&(decide (x.tries>0)&&decide (x.times>x.tries)))))):=by
    unfold xdq;rw [hid,zy22,hf];rfl
   refine sT ?_;refine sO ?_;refine zaj k1 rfl (zw ?_);refine sOm ?_;refine zam hf zz0 (zw ?_);by_cases d1:f=1
   case neg =>
    refine zab ?_ ?_
    . simpa using d1
    (conv=>whnf);refine sD ?_
    repeat refine sG ?_
    refine sF ?_;refine hQ _ _ ?_;conv=>whnf
    rw [zhd,zy0 (by rw [hdue];simp [d1])] at zcq;exact yy21
   refine zac ?_ ?_
   . simpa using d1
   (conv=>whnf);by_cases d2:x.state=2
   case pos =>
    refine zab ?_ ?_
    . simpa using d2
    (conv=>whnf);refine sD ?_
    repeat refine sG ?_
    refine sF ?_;refine hQ _ _ ?_;conv=>whnf
    rw [zhd,zy0 (by rw [hdue];simp [d1,d2])] at zcq;exact yy21
   refine zac ?_ ?_
   . simpa using d2
   conv=>whnf
   (refine zaf [] [(1000,1000),(1001,900),(1002,901),(1003,902),(1004,903),(1005,904),(1006,905),(1007,1007)] [] ?_;(conv=>whnf);refine dG (yif u  x.came x.life) ?_)
   exact yy6
  | nil =>
   exact yy87
end Snd
namespace Snd
open Ser
def ygk (l:List (List Chunk)):List Chunk:=l[0]?.getD []
def yog (l:List (List Chunk)):List Chunk:=l[1]?.getD []
theorem yec:∀ (l:List Path) (k:Nat),(k=0->0<l.length)->∃ c:Nat,Paths.zed k l=c/\(c=0\/c<k+l.length)
 | [],k,h=>⟨0,rfl,.inl rfl⟩
 | p::r,k,_=>by
  rw [Paths.zed];split
  . exact ⟨k,rfl,.inr zz5⟩
  . obtain ⟨c,h1,h2⟩:=yec r (k+1) zz0
    exact ⟨c,h1,by rcases h2 with h2 | h2;exact .inl h2;exact .inr zz3⟩
theorem zdn {s:zag} (h:0<s.paths.length):Paths.zed 0 s.paths=(choose s:Nat)/\choose s<s.paths.length:=by
 obtain ⟨c,h1,h2⟩:=yec s.paths 0 fun _=>h
 unfold choose;rw [h1];exact ⟨by simp,by rcases h2 with h2 | h2<;>simp<;>omega⟩
def xhz (s:zag):Chunk:=⟨3,tag (Sco.zdy s.out s.cum).1,0,0,0,false,false,[],[],0,(Sco.zdy s.out s.cum).2⟩
def yiw (s:zag) (k:Nat) (w:Path):zag:={s with forward:=false,paths:=s.paths.set k (zcs s w)}
theorem zta {s:zag} {o:List (List Chunk)} (h:s.forward=false\/(Sco.zdy s.out s.cum).1=s.cum):forward ⟨s,o⟩=⟨s,o⟩:=by rw [forward,zy1 h]
theorem zvm {s:zag} {o:List (List Chunk)} {w:Path} {l:List Chunk} (h:¬ (s.forward=false\/(Sco.zdy s.out s.cum).1=s.cum)) (ha:s.paths[choose s]?=some w) (hl:o[choose s]?=some l) :
 forward ⟨s,o⟩=⟨yiw s (choose s) w,o.set (choose s) (l++[xhz s])⟩:=by
 rw [forward,zy0 h];simp only [setAt,ha,hl,yiw,xhz]
theorem zpj {s:zag} {w:Path} (h:¬ w.zcs=0):zcs s w=w:=by rw [zcs,zy0 h]
theorem zme {s:zag} {w:Path} (h:w.zcs=0):zcs s w={w with zcs:=W (s.clock+w.wait)}:=by rw [zcs,zy1 h]
theorem ycw (s:zag) (h3:s.out.length<2 ^ 38) (h4:s.paths.length=1) :
 zan Tryz.prog 94 [.ptr 1000 0] (lk .free (pH3 s)) (.tup [])
  (lk .free (xgb (forward ⟨s,[[]]⟩).s (ygk (forward ⟨s,[[]]⟩).out) 1001 1002 1003 1004 1005 1006 1007 0 [])):=by
 obtain ⟨hch,hch2⟩:=zdn (s:=s) zz0;have hc0:choose s=0:=by omega
 have pc:=Paths.zeq s.paths zz0;rw [hch,hc0] at pc;obtain ⟨w,ha⟩:∃ w,s.paths[0]?=some w:=⟨_,zy3 zz0⟩
 refine zaq mixed Tryz.func94 zz4 [1000,1001,1002,1003,1004,1005,1006,1007] zbq ?_;(conv=>whnf)
 (refine zaf [] [(1000,1003)] [(0,17)] ?_;(conv=>whnf);refine dG (Sco.zfh s.out s.cum h3) ?_)
 refine sD ?_;by_cases c1:s.forward=false
 . rw [zta (.inl c1)]
   refine zac ?_ ?_
   . simp [c1]
   conv=>whnf
   repeat refine sG ?_
   (exact zci (pK8 [(0,none)]))
 by_cases c2:(Sco.zdy s.out s.cum).1=s.cum
 . rw [zta (.inr c2)]
   refine zab ?_ ?_
   . simp [c1]
   (conv=>whnf);refine zac ?_ ?_
   . simp [c2]
   conv=>whnf
   repeat refine sG ?_
   (exact zci (pK8 [(0,none)]))
 have hfy:=zvm (o:=[[]]) (l:=[]) (w:=w) zz127 (by rw [hc0];exact ha) (by rw [hc0];rfl);rw [hfy,hc0];refine zab ?_ ?_
 . simp [c1]
 (conv=>whnf);refine zab ?_ ?_
 . simp [c2]
 conv=>whnf
 repeat refine sG ?_
 (refine cL ?_;refine dL pc ?_)
 refine ⟨0,rfl,by decide,zw ?_⟩
 (refine cL ?_;refine dL (zdl _) ?_)
 refine zaa (c:=(1:Nat)*128<=140737488355328) zz4 (zw ?_);refine ⟨0,rfl,by decide,zw ?_⟩;refine sD ?_;refine sOm ?_;refine zam ha rfl (zw ?_);by_cases c3:w.zcs=0
 case pos =>
  refine zac ?_ ?_
  . simpa using c3
  conv=>whnf
  repeat refine sG ?_
  refine zam ha rfl (zw ?_);refine sR ?_;refine zam ha rfl (zw ?_);refine sD ?_
  (exact zcx (pK8 [(0,some 62)]) zz32)
 case neg =>
  refine zab ?_ ?_
  . simpa using c3
  conv=>whnf
  repeat refine sG ?_
  rw [show (yiw s 0 w)={s with forward:=false} by {unfold yiw;rw [zpj c3,zlf ha]}]
  (exact zci (pK8 [(0,some 62)]))
theorem ycx (s:zag) (h3:s.out.length<2 ^ 38) (h4:s.paths.length=2) :
 zan Tryz.prog 94 [.ptr 1000 0] (lk .free (pH4 s)) (.tup [])
  (lk .free (xcy (forward ⟨s,[[],[]]⟩).s (ygk (forward ⟨s,[[],[]]⟩).out) (yog (forward ⟨s,[[],[]]⟩).out) 1001 1002 1003 1004 1005 1006 1007 0 1 [])):=by
 obtain ⟨hch,hch2⟩:=zdn (s:=s) zz0;have hc01:choose s=0\/choose s=1:=by omega
 rcases hc01 with hc0 | hc0
 case inl =>
  have pc:=Paths.zeq s.paths zz0;rw [hch,hc0] at pc;obtain ⟨w,ha⟩:∃ w,s.paths[0]?=some w:=⟨_,zy3 zz0⟩
  refine zaq mixed Tryz.func94 zz4 [1000,1001,1002,1003,1004,1005,1006,1007] zbq ?_;(conv=>whnf)
  (refine zaf [] [(1000,1003)] [(0,17)] ?_;(conv=>whnf);refine dG (Sco.zfh s.out s.cum h3) ?_)
  refine sD ?_;by_cases c1:s.forward=false
  . rw [zta (.inl c1)]
    exact yy152
  by_cases c2:(Sco.zdy s.out s.cum).1=s.cum
  . rw [zta (.inr c2)]
    exact yy131
  have hfy:=zvm (o:=[[],[]]) (l:=[]) (w:=w) zz127 (by rw [hc0];exact ha) (by rw [hc0];rfl);rw [hfy,hc0];refine zab ?_ ?_
  . simp [c1]
  (conv=>whnf);refine zab ?_ ?_
  . simp [c2]
  conv=>whnf
  repeat refine sG ?_
  (refine cL ?_;refine dL pc ?_)
  refine ⟨0,rfl,by decide,zw ?_⟩
  (refine cL ?_;refine dL (zdl _) ?_)
  refine zaa (c:=(1:Nat)*128<=140737488355328) zz4 (zw ?_);refine ⟨0,rfl,by decide,zw ?_⟩;refine sD ?_;refine sOm ?_;refine zam ha rfl (zw ?_);by_cases c3:w.zcs=0
  case pos =>
   refine zac ?_ ?_
   . simpa using c3
   conv=>whnf
   repeat refine sG ?_
   refine zam ha rfl (zw ?_);refine sR ?_;refine zam ha rfl (zw ?_);refine sD ?_
   (exact zcx (pK8 [(0,some 62),(1,none)]) zz32)
  case neg =>
   refine zab ?_ ?_
   . simpa using c3
   conv=>whnf
   repeat refine sG ?_
   rw [show (yiw s 0 w)={s with forward:=false} by {unfold yiw;rw [zpj c3,zlf ha]}]
   (exact zci (pK8 [(0,some 62),(1,none)]))
 case inr =>
  have pc:=Paths.zeq s.paths zz0;rw [hch,hc0] at pc;obtain ⟨w,ha⟩:∃ w,s.paths[1]?=some w:=⟨_,zy3 zz0⟩
  refine zaq mixed Tryz.func94 zz4 [1000,1001,1002,1003,1004,1005,1006,1007] zbq ?_;(conv=>whnf)
  (refine zaf [] [(1000,1003)] [(0,17)] ?_;(conv=>whnf);refine dG (Sco.zfh s.out s.cum h3) ?_)
  refine sD ?_;by_cases c1:s.forward=false
  . rw [zta (.inl c1)]
    exact yy152
  by_cases c2:(Sco.zdy s.out s.cum).1=s.cum
  . rw [zta (.inr c2)]
    exact yy131
  have hfy:=zvm (o:=[[],[]]) (l:=[]) (w:=w) zz127 (by rw [hc0];exact ha) (by rw [hc0];rfl);rw [hfy,hc0];refine zab ?_ ?_
  . simp [c1]
  (conv=>whnf);refine zab ?_ ?_
  . simp [c2]
  conv=>whnf
  repeat refine sG ?_
  (refine cL ?_;refine dL pc ?_)
  refine ⟨1,rfl,by decide,zw ?_⟩
  (refine cL ?_;refine dL (zdl _) ?_)
  refine zaa (c:=(1:Nat)*128<=140737488355328) zz4 (zw ?_);refine ⟨1,rfl,by decide,zw ?_⟩;refine sD ?_;refine sOm ?_;refine zam ha rfl (zw ?_);by_cases c3:w.zcs=0
  case pos =>
   refine zac ?_ ?_
   . simpa using c3
   conv=>whnf
   repeat refine sG ?_
   refine zam ha rfl (zw ?_);refine sR ?_;refine zam ha rfl (zw ?_);refine sD ?_
   (exact zcx (pK8 [(1,some 62),(0,none)]) (by repeat' (first | exact z0 | refine z1 ?_ | refine ⟨?_,?_⟩ | ((exact (zfg (f:=Path.row) (y:={w with zcs:=W (s.clock+w.wait)}) rfl).trans (zar (by rw [show (yiw s 1 w).paths=s.paths.set 1 (zcs s w) from rfl,zme c3];rfl)))) | exact z2)))
  case neg =>
   refine zab ?_ ?_
   . simpa using c3
   conv=>whnf
   repeat refine sG ?_
   rw [show (yiw s 1 w)={s with forward:=false} by {unfold yiw;rw [zpj c3,zlf ha]}]
   (exact zci (pK8 [(1,some 62),(0,none)]))
end Snd
namespace Snd
open Ser
theorem zim {α:Type} (f:α->Nat->α) (p:α) (i:Nat):(List.range (i+1)).foldl f p=f ((List.range i).foldl f p) i:=by
 rw [List.range_succ,zy59];rfl
theorem zpi {s:zag} {o:List (List Chunk)} {i c:Nat} {x:zbo} {w:Path} (hx:s.out[i]?=some x) (hw:s.paths[c]?=some w) (h:¬ (x.state=3/\w.zba<w.window)):zcz c ⟨s,o⟩ i=⟨s,o⟩:=by
 simp only [zcz,hx,opened,hw];rw [zy0 (by simpa using h)]
theorem zmd {s:zag} {o:List (List Chunk)} {i c:Nat} {x:zbo} {w:Path} {l:List Chunk} (hx:s.out[i]?=some x) (hw:s.paths[c]?=some w) (hl:o[c]?=some l) (h:x.state=3/\w.zba<w.window) :
 zcz c ⟨s,o⟩ i=⟨zxy s i c x w,o.set c (l++[x.chunk])⟩:=by
 simp only [zcz,hx,opened,hw];rw [zy1 (by simpa using h),zyr hx hw hl]
theorem ykz (s:zag) (a:List Chunk) (h3:s.out.length<2 ^ 28) (h4:s.paths.length=1) (ha:a.length<2 ^ 28) :
 zan Tryz.prog 95 [.ptr 1000 0] (lk .free (pH1 s a)) (.tup [])
  (lk .free (xgb (again ⟨s,[a]⟩).s (ygk (again ⟨s,[a]⟩).out) 1001 1002 1003 1004 1005 1006 1007 0 [(1008,.dead)])):=by
 obtain ⟨hch,hch2⟩:=zdn (s:=s) zz0;have hc0:choose s=0:=by omega
 have pc:=Paths.zeq s.paths zz0;rw [hch,hc0] at pc;have hag:again ⟨s,[a]⟩=(List.range s.out.length).foldl (zcz 0) ⟨s,[a]⟩:=by rw [again,hc0]
 generalize again ⟨s,[a]⟩=G at hag ⊢;refine zaq mixed Tryz.func95 zz4 [1000,1001,1002,1003,1004,1005,1006,1007,1008] zbq ?_;(conv=>whnf)
 (refine cL ?_;refine dL pc ?_)
 refine ⟨{x:Nat×zag×List Chunk // x.1<=s.out.length/\(List.range x.1).foldl (zcz 0) ⟨s,[a]⟩=⟨x.2.1,[x.2.2]⟩/\x.2.1.out.length=s.out.length/\x.2.1.paths.length=s.paths.length/\x.2.2.length<=a.length+x.1},
  fun | ⟨(i,t,a'),_⟩=>hsP [1000,1001,1002,1003,1004,1005,1006,1007,1008] 51 [(0,.ptr 1000 0),(2,i64 0),(15,i64 s.out.length),(16,i64 i)] (xgb t a' 1001 1002 1003 1004 1005 1006 1007 900 [(1008,.dead)]),fun x=>s.out.length-x.1.1,⟨(0,s,a),by omega,rfl,rfl,rfl,by dsimp only;omega⟩,?_,?_⟩
 . exact (zcc (pK9 [(900,some 1008)]) zz2)
 rintro ⟨⟨i,t,a'⟩,k1,k2,k3,k4,k5⟩;dsimp only at k1 k2 k3 k4 k5;(conv=>whnf);by_cases hi:i<s.out.length
 case pos =>
  obtain ⟨x,hx⟩:∃ x,t.out[i]?=some x:=⟨_,zy3 zz0⟩
  obtain ⟨w,hw⟩:∃ w,t.paths[0]?=some w:=⟨_,zy3 zz0⟩
  have hst:=zim (zcz 0) ⟨s,[a]⟩ i;rw [k2] at hst;have hno:=zpi (o:=[a']) (c:=0) hx hw;have hyes:=zmd (o:=[a']) (c:=0) (l:=a') hx hw rfl;refine sT ?_;refine sO ?_;refine zam hx rfl (zw ?_);by_cases d1:x.state=3
  case neg =>
   refine zab ?_ ?_
   . simpa using d1
   conv=>whnf
   repeat refine sG ?_
   refine sF ?_;exact ⟨⟨(i+1,t,a'),by dsimp only;omega,by rw [hst,hno fun h=>d1 h.1],k3,k4,by dsimp only;omega⟩,(zcc (pK9 [(900,some 900)]) zz2),by dsimp only;omega⟩
  refine zac ?_ ?_
  . simpa using d1
  (conv=>whnf);refine sOm ?_;refine zam hw rfl (zw ?_)
  (refine cL ?_;refine dL (Paths.zkp w) ?_)
  by_cases d2:w.zba<w.window
  case neg =>
   refine zab ?_ ?_
   . simpa using d2
   conv=>whnf
   repeat refine sG ?_
   refine sF ?_;exact ⟨⟨(i+1,t,a'),by dsimp only;omega,by rw [hst,hno fun h=>d2 h.2],k3,k4,by dsimp only;omega⟩,(zcc (pK9 [(900,some 900)]) zz2),by dsimp only;omega⟩
  refine zac ?_ ?_
  . simpa using d2
  conv=>whnf
  repeat refine sG ?_
  refine sOm ?_
  (refine zaf [] [(1000,1000),(1001,1001),(1002,1002),(1003,1003),(1004,1004),(1005,1005),(1006,1006),(1007,1007),(1008,900)] [(0,920)] ?_;(conv=>whnf);refine dG (zoz t a' i x w hx hw zz0) ?_)
  refine sF ?_;exact ⟨⟨(i+1,zxy t i 0 x w,a'++[x.chunk]),by dsimp only;omega,by rw [hst,hyes ⟨d1,d2⟩];rfl,by show (t.out.set i _).length=_;rw [zy26];exact k3,by show (t.paths.set 0 _).length=_;rw [zy26];exact k4,by simp;omega⟩,(zcc (pK9 [(900,some 920)]) zz2),by dsimp only;omega⟩
 case neg =>
  have hin:i=s.out.length:=by omega
  subst hin;refine sN ?_;rw [k2] at hag;subst hag
  (exact zci (pK9 [(0,some 900)]))
theorem yla (s:zag) (a b:List Chunk) (h3:s.out.length<2 ^ 28) (h4:s.paths.length=2) (ha:a.length+b.length<2 ^ 28) :
 zan Tryz.prog 95 [.ptr 1000 0] (lk .free (pH2 s a b)) (.tup [])
  (lk .free (xcy (again ⟨s,[a,b]⟩).s (ygk (again ⟨s,[a,b]⟩).out) (yog (again ⟨s,[a,b]⟩).out) 1001 1002 1003 1004 1005 1006 1007 0 1 [(1008,.dead),(1009,.dead)])):=by
 obtain ⟨hch,hch2⟩:=zdn (s:=s) zz0;have hc01:choose s=0\/choose s=1:=by omega
 rcases hc01 with hc0 | hc0
 case inl =>
  have pc:=Paths.zeq s.paths zz0;rw [hch,hc0] at pc;have hag:again ⟨s,[a,b]⟩=(List.range s.out.length).foldl (zcz 0) ⟨s,[a,b]⟩:=by rw [again,hc0]
  generalize again ⟨s,[a,b]⟩=G at hag ⊢;refine zaq mixed Tryz.func95 zz4 [1000,1001,1002,1003,1004,1005,1006,1007,1008,1009] zbq ?_;(conv=>whnf)
  (refine cL ?_;refine dL pc ?_)
  refine ⟨{x:Nat×zag×List Chunk×List Chunk // x.1<=s.out.length/\(List.range x.1).foldl (zcz 0) ⟨s,[a,b]⟩=⟨x.2.1,[x.2.2.1,x.2.2.2]⟩/\x.2.1.out.length=s.out.length/\x.2.1.paths.length=s.paths.length/\x.2.2.1.length+x.2.2.2.length<=a.length+b.length+x.1},
   fun | ⟨(i,t,a',b'),_⟩=>hsP [1000,1001,1002,1003,1004,1005,1006,1007,1008,1009] 51 [(0,.ptr 1000 0),(2,i64 0),(15,i64 s.out.length),(16,i64 i)] (xcy t a' b' 1001 1002 1003 1004 1005 1006 1007 900 901 [(1008,.dead),(1009,.dead)]),fun x=>s.out.length-x.1.1,⟨(0,s,a,b),by omega,rfl,rfl,rfl,by dsimp only;omega⟩,?_,?_⟩
  . exact (zcc (zic [(900,some 1008),(901,some 1009)]) zz2)
  rintro ⟨⟨i,t,a',b'⟩,k1,k2,k3,k4,k5⟩;dsimp only at k1 k2 k3 k4 k5;(conv=>whnf);by_cases hi:i<s.out.length
  case pos =>
   obtain ⟨x,hx⟩:∃ x,t.out[i]?=some x:=⟨_,zy3 zz0⟩
   obtain ⟨w,hw⟩:∃ w,t.paths[0]?=some w:=⟨_,zy3 zz0⟩
   have hst:=zim (zcz 0) ⟨s,[a,b]⟩ i;rw [k2] at hst;have hno:=zpi (o:=[a',b']) (c:=0) hx hw;have hyes:=zmd (o:=[a',b']) (c:=0) (l:=a') hx hw rfl;refine sT ?_;refine sO ?_;refine zam hx rfl (zw ?_);by_cases d1:x.state=3
   case neg =>
    exact yy76
   refine zac ?_ ?_
   . simpa using d1
   (conv=>whnf);refine sOm ?_;refine zam hw rfl (zw ?_)
   (refine cL ?_;refine dL (Paths.zkp w) ?_)
   by_cases d2:w.zba<w.window
   case neg =>
    exact yy77
   refine zac ?_ ?_
   . simpa using d2
   conv=>whnf
   repeat refine sG ?_
   refine sOm ?_
   (refine zaf [] [(1000,1000),(1001,1001),(1002,1002),(1003,1003),(1004,1004),(1005,1005),(1006,1006),(1007,1007),(1008,900),(1009,901)] [(0,920)] ?_;(conv=>whnf);refine dG (zpa t a' b' i x w hx hw zz0) ?_)
   refine sF ?_;exact ⟨⟨(i+1,zxy t i 0 x w,a'++[x.chunk],b'),by dsimp only;omega,by rw [hst,hyes ⟨d1,d2⟩];rfl,by show (t.out.set i _).length=_;rw [zy26];exact k3,by show (t.paths.set 0 _).length=_;rw [zy26];exact k4,by simp;omega⟩,(zcc (zic ((900,some 920)::[(901,some 901)])) zz2),by dsimp only;omega⟩
  case neg =>
   exact yy137
 case inr =>
  have pc:=Paths.zeq s.paths zz0;rw [hch,hc0] at pc;have hag:again ⟨s,[a,b]⟩=(List.range s.out.length).foldl (zcz 1) ⟨s,[a,b]⟩:=by rw [again,hc0]
  generalize again ⟨s,[a,b]⟩=G at hag ⊢;refine zaq mixed Tryz.func95 zz4 [1000,1001,1002,1003,1004,1005,1006,1007,1008,1009] zbq ?_;(conv=>whnf)
  (refine cL ?_;refine dL pc ?_)
  refine ⟨{x:Nat×zag×List Chunk×List Chunk // x.1<=s.out.length/\(List.range x.1).foldl (zcz 1) ⟨s,[a,b]⟩=⟨x.2.1,[x.2.2.1,x.2.2.2]⟩/\x.2.1.out.length=s.out.length/\x.2.1.paths.length=s.paths.length/\x.2.2.1.length+x.2.2.2.length<=a.length+b.length+x.1},
   fun | ⟨(i,t,a',b'),_⟩=>hsP [1000,1001,1002,1003,1004,1005,1006,1007,1008,1009] 51 [(0,.ptr 1000 0),(2,i64 1),(15,i64 s.out.length),(16,i64 i)] (xcy t a' b' 1001 1002 1003 1004 1005 1006 1007 900 901 [(1008,.dead),(1009,.dead)]),fun x=>s.out.length-x.1.1,⟨(0,s,a,b),by omega,rfl,rfl,rfl,by dsimp only;omega⟩,?_,?_⟩
  . exact (zcc (zic [(900,some 1008),(901,some 1009)]) zz2)
  rintro ⟨⟨i,t,a',b'⟩,k1,k2,k3,k4,k5⟩;dsimp only at k1 k2 k3 k4 k5;(conv=>whnf);by_cases hi:i<s.out.length
  case pos =>
   obtain ⟨x,hx⟩:∃ x,t.out[i]?=some x:=⟨_,zy3 zz0⟩
   obtain ⟨w,hw⟩:∃ w,t.paths[1]?=some w:=⟨_,zy3 zz0⟩
   have hst:=zim (zcz 1) ⟨s,[a,b]⟩ i;rw [k2] at hst;have hno:=zpi (o:=[a',b']) (c:=1) hx hw;have hyes:=zmd (o:=[a',b']) (c:=1) (l:=b') hx hw rfl;refine sT ?_;refine sO ?_;refine zam hx rfl (zw ?_);by_cases d1:x.state=3
   case neg =>
    exact yy76
   refine zac ?_ ?_
   . simpa using d1
   (conv=>whnf);refine sOm ?_;refine zam hw rfl (zw ?_)
   (refine cL ?_;refine dL (Paths.zkp w) ?_)
   by_cases d2:w.zba<w.window
   case neg =>
    exact yy77
   refine zac ?_ ?_
   . simpa using d2
   conv=>whnf
   repeat refine sG ?_
   refine sOm ?_
   (refine zaf [] [(1000,1000),(1001,1001),(1002,1002),(1003,1003),(1004,1004),(1005,1005),(1006,1006),(1007,1007),(1008,900),(1009,901)] [(0,920)] ?_;(conv=>whnf);refine dG (zpb t a' b' i x w hx hw zz0) ?_)
   refine sF ?_;exact ⟨⟨(i+1,zxy t i 1 x w,a',b'++[x.chunk]),by dsimp only;omega,by rw [hst,hyes ⟨d1,d2⟩];rfl,by show (t.out.set i _).length=_;rw [zy26];exact k3,by show (t.paths.set 1 _).length=_;rw [zy26];exact k4,by simp;omega⟩,(zcc (zic ((900,some 900)::[(901,some 920)])) zz2),by dsimp only;omega⟩
  case neg =>
   exact yy137
end Snd
theorem yav {rows ys:List (List PV)} {z:List PV} {i j a k m:Nat} (hij:i<=j) (hj:j<=rows.length) (ha:a=i) (hy:ys=(rows.drop j).take (rows.length-j)) (hk:k=i+ys.length) (hm:m=j-i) (_:i+ys.length+(j-i)=rows.length) :
 zcv (zcv rows a ys) k (List.replicate m z)=rows.take i++rows.drop j++List.replicate (j-i) z:=by
 subst ha hm;have hy2:ys=rows.drop j:=by rw [hy,zy35 (by simp)]
 have h1:ys.length=rows.length-j:=by rw [hy2];simp
 have h2:(rows.take a).length=a:=by simp;omega
 have h3:zcv rows a ys=(rows.take a++ys)++rows.drop k:=by rw [zcv,hk]
 have h4:(rows.take a++ys).length=k:=by simp;omega
 rw [zcv,h3,zy86 h4,zy19 (by simp only [zy10,zy38,zy101,h2];omega),zy5,hy2]
theorem yzx {rows ys zs:List (List PV)} {a b k:Nat} (hk:k<rows.length) (ha:a=k+1) (hy:ys=rows.drop k) (hb:b=k) (hz:zs.length=1):zcv (zcv rows a ys) b zs=rows.take k++zs++rows.drop k:=by
 subst ha hy hb;have h1:zcv rows (b+1) (rows.drop b)=rows.take (b+1)++rows.drop b:=by
  rw [zcv,zy19 (i:=b+1+(rows.drop b).length) (by simp;omega),zy5]
 have h2:(rows.take (b+1)).length=b+1:=by simp;omega
 rw [zcv,h1,hz,List.drop_left' h2,zy77 (by omega),List.take_take,Nat.min_eq_left (by omega)]
theorem yzw {rows ys zs:List (List PV)} {z:List PV} {a b k m:Nat} (hk:k<rows.length) (hm:m=rows.length+1-k) (ha:a=k) (hz:zs.length=1) (hb:b=k+1) (hy:ys=rows.drop k) :
 zcv (zcv (rows.take k++List.replicate m z) a zs) b ys=rows.take k++zs++rows.drop k:=by
 subst hm ha hb hy;have h1:(rows.take a).length=a:=by simp;omega
 have h2:zcv (rows.take a++List.replicate (rows.length+1-a) z) a zs=(rows.take a++zs)++(rows.take a++List.replicate (rows.length+1-a) z).drop (a+1):=by
  rw [zcv,zy86 h1,hz]
 have h3:(rows.take a++zs).length=a+1:=by simp;omega
 rw [zcv,h2,zy86 h3,zy19 (i:=a+1+_) (by simp;omega),zy5]
theorem xjk {α:Type} {f:α->List PV} {v:α} {m:Nat} {l r:List α} (h:0<m):(l.map f++[f v].take m)++r.map f=(l++v::r).map f:=by
 rw [zy35 (by simp;omega),zy34,zy29,zy28];rfl
theorem xhj {α:Type} {f:α->List PV} {v:α} {m k:Nat} {l:List α} (h:0<m):(l.map f).take k++[f v].take m++(l.map f).drop k=(l.take k++v::l.drop k).map f:=by
 rw [<- zy122,<- zy104];exact xjk h
def zuz (cmp:Span->Int) (l:List Span) (K:Nat):Bool:=match l[K]? with | some s=>cmp s==0 | none=>false
theorem xfi {g:FuncId} {cmp:Span->Int} {n:Int} (hg:∀ m:Span,zan Tryz.prog g [m.hv,i64 n] zad (i64 (cmp m)) zad) (l:List Span) (K:Nat) (hK:K<=l.length) (hm:∀ (i:Nat) (h:i<l.length),cmp l[i]<0↔i<K) (hb:l.length<2 ^ 40) :
 zan Tryz.prog 195 [Ser.zas l,i64 n,.clo g []] zad (.tup [i64 K,zbj (zuz cmp l K)]) zad:=by
 refine zal mixed Tryz.func195 zz4 ?_;(conv=>whnf);refine ⟨{x:Nat×Nat // x.1<=K/\K<=x.2/\x.2<=l.length},fun | ⟨(i,j),_⟩=>hs 49 [(0,Ser.zas l),(1,i64 n),(2,.clo g []),(8,i64 l.length),(9,i64 i),(10,i64 j)] [],fun x=>x.1.2-x.1.1,⟨(0,l.length),by simp,hK,zy24 _⟩,?_,?_⟩
 . exact (zbe [])
 rintro ⟨⟨i,j⟩,h1,h2,h3⟩;dsimp only at h1 h2 h3;(conv=>whnf);by_cases c:i<j
 . have hlt:(i+j) / 2<l.length:=by omega
   refine sT ?_;refine sF ?_;refine zbv (zur zz0 zz0) (zw ?_);refine zaa zz4 (zw ?_);refine zbv (z':=(((i+j) / 2:Nat):Int)) ?_ ?_
   . show W (((i:Int)+j) / 2)=_
     rw [zbt (by omega) (by omega)];omega
   (conv=>whnf);refine zca ((i+j) / 2) rfl hlt (zw ?_)
   (refine cZ ?_;refine dL (hg l[(i+j) / 2]) ?_)
   by_cases c2:cmp l[(i+j) / 2]<0
   . have hk:=(hm _ hlt).1 c2
     refine sT ?_;refine sF ?_;exact ⟨⟨((i+j) / 2+1,j),hk,h2,h3⟩,(zbe []),by dsimp only;omega⟩
   . have hk:¬ (i+j) / 2<K:=fun h=>c2 ((hm _ hlt).2 h)
     refine sN ?_;exact ⟨⟨(i,(i+j) / 2),h1,by dsimp only;omega,by dsimp only;omega⟩,(zbe []),by dsimp only;omega⟩
 . have hi:i=K:=by omega
   subst hi;refine sN ?_;by_cases c2:i<l.length
   . refine sT ?_
     refine zca i rfl c2 (zw ?_)
     (refine cZ ?_;refine dL (hg l[i]) ?_)
     rw [zuz,zy3 c2]
   . refine sN ?_
     rw [zuz,zy51 (by omega)]
theorem ypz (l:List Span) (i j:Nat) (hij:i<=j) (hj:j<=l.length) (hb:l.length<2 ^ 40) :
 zan Tryz.prog 198 [.osl 1000 2 0 (l.map Span.row).length,i64 i,i64 j] (lk .free [(1000,.live (.row 199 2 (l.map Span.row)))])
  (.osl 1000 2 0 (l.length-(j-i))) (lk .free [(1000,.live (.row 199 2 ((l.take i++l.drop j).map Span.row++List.replicate (j-i) [pi 0,pi 0])))]):=by
 refine zaq mixed Tryz.func198 zz4 [1000] zbq ?_;have hlr:(l.map Span.row).length=l.length:=by simp
 (conv=>whnf);refine sO ?_;by_cases h:i=j
 . subst h
   refine sT ?_;refine zap [(1000,some 1000)] rfl rfl ⟨rfl,trivial⟩ rfl ?_ ⟨⟨rfl,.inl ⟨1000,rfl,?_⟩⟩,trivial⟩
   . show HV.osl 1000 2 0 (l.length-(i-i))=HV.osl 1000 2 0 (l.map Span.row).length
     rw [hlr,zy95];rfl
   . show zai.live (.row _ 2 (l.map Span.row))=zai.live (.row _ 2 _)
     rw [zy32,zy95,zy135,zy5]
 . refine sN ?_
   refine sO ?_;refine sO ?_;refine ⟨_,rfl,?_,?_⟩
   . rw [hlr];omega
   (conv=>whnf);refine zaa zz3 ?_;(conv=>whnf);refine zaw ?_ ?_
   . kernel_rfl
   (conv=>whnf);refine zaa zz63 ?_;(conv=>whnf);refine zaa zz63 ?_;(conv=>whnf);refine zap [(1000,some 1000)] rfl rfl ⟨rfl,trivial⟩ rfl ?_ ⟨⟨rfl,.inl ⟨1000,rfl,?_⟩⟩,trivial⟩
   . show HV.osl 1000 2 0 _=HV.osl 1000 2 0 _
     congr 1;simp;omega
   . refine (congrArg (fun r=>zai.live (.row _ 2 r)) (yav (rows:=l.map Span.row) (i:=i) (j:=j) (z:=[pi 0,pi 0]) hij (by rw [hlr];exact hj) ?_ ?_ ?_ ?_ ?_)).trans ?_
     . simp<;>omega
     . simp<;>omega
     . simp<;>omega
     . simp;omega
     . simp;omega
     . rw [zy34,zy122,zy104];rfl
theorem yzc (l:List Span) (i j:Nat) (hij:i<=j) (hj:j<=l.length) (hb:l.length<2 ^ 40) :
 zan Tryz.prog 198 [.own 1000,i64 i,i64 j] (lk .free [(1000,.live (.row 199 2 (l.map Span.row)))])
  (.own 0) (lk .free [(1000,.dead),(0,.live (.row 199 2 ((l.take i++l.drop j).map Span.row)))]):=by
 have h:=zkf (d:=0) (L:=[]) (rows:=(l.take i++l.drop j).map Span.row++List.replicate (j-i) [pi 0,pi 0]) (zvl (ypz l i j hij hj hb)) (.inl rfl) zz3 rfl zz4
 rwa [zy86 zz3] at h
theorem zjh (a b:List Span) (x:Span) (i j:Int) (hi:i=a.length) (hj:j=a.length+1) (hb:(a++x::b).length<2 ^ 40) :
 zan Tryz.prog 198 [.own 1000,i64 i,i64 j] (lk .free [(1000,.live (.row 199 2 ((a++x::b).map Span.row)))])
  (.own 0) (lk .free [(1000,.dead),(0,.live (.row 199 2 ((a++b).map Span.row)))]):=by
 subst hi hj;have h:=yzc (a++x::b) a.length (a.length+1) zz0 zz5 hb
 rwa [zy130,show (a++x::b).drop (a.length+1)=b by rw [<- zy144,zy105];rfl,zy124] at h
theorem yji {inp out:List Span} (a b:List Span) (x:Span) (i j:Int) (h1:inp=a++x::b) (h2:out=a++b) (hi:i=a.length) (hj:j=a.length+1) (hb:inp.length<2 ^ 40) :
 zan Tryz.prog 198 [.own 1000,i64 i,i64 j] (lk .free [(1000,.live (.row 199 2 (inp.map Span.row)))])
  (.own 0) (lk .free [(1000,.dead),(0,.live (.row 199 2 (out.map Span.row)))]):=by
 subst h1 h2;exact zjh a b x i j hi hj hb
theorem xev {H:Nat->zai} {i1 i2 n o l:Nat} {t1 n1 t2 n2 c:Nat} {r1 r2:List (List PV)} (h1:H i1=.live (.row t1 n1 r1)) (h2:H i2=.live (.buf t2 n2 r2 c)) (hne:i1≠i2) :
 Ov Tryz.prog 204 [.own i1,.osl i2 n o l] H ⟨zbj false,[],[i1,i2]⟩:=by
 obtain ⟨inf,hi,hs⟩:=zy31.1 (show (Tryz.prog.info? 199).map (·.size)=some 2 by kernel_rfl);exact ⟨Tryz.f204,199,inf,_,_,i1,i2,_,_,Tryz.func204,rfl,by decide,by kernel_rfl,by kernel_rfl,⟨33,rfl,by kernel_rfl⟩,hi,by rw [hs];decide,rfl,.inl rfl,.inr ⟨_,_,_,rfl⟩,hne,h1,h2,by simp,by simp,rfl⟩
theorem yfw (l:List Span) (v:Span) (hb:l.length<2 ^ 40) :
 zan Tryz.prog 197 [.own 1000,i64 l.length,.own 1001] (lk .free [(1000,.live (.row 199 2 (l.map Span.row))),(1001,.live (.row 199 2 [v.row]))])
  (.own 0) (lk .free [(1000,.dead),(0,.live (.row 199 2 ((l++[v]).map Span.row))),(1001,.dead)]):=by
 refine zaq mixed Tryz.func197 zz4 [1000,1001] (fun i=>by rcases zbq (L:=[(1000,zai.live (.row 199 2 (l.map Span.row))),(1001,.live (.row 199 2 [v.row]))]) i with h | h;exact .inl h;exact .inr h) ?_;have hlr:(l.map Span.row).length=l.length:=by simp
 (conv=>whnf);refine sO ?_;refine sT ?_;refine zaa (c:=((l.map Span.row).length+[v.row].length)*16<=140737488355328) zz3 (zw ?_);refine zap [(1000,some 1000),(0,some 25),(1001,some 1001)] rfl rfl ⟨rfl,rfl,trivial⟩ rfl rfl ⟨rfl,⟨rfl,.inl ⟨25,rfl,?_⟩⟩,rfl,trivial⟩;exact zbc (f:=Span.row) rfl rfl
theorem yfx (l:List Span) (k:Nat) (v:Span) (hk:k<l.length) (hb:l.length<2 ^ 40) :
 zan Tryz.prog 197 [.own 1000,i64 k,.own 1001] (lk .free [(1000,.live (.row 199 2 (l.map Span.row))),(1001,.live (.row 199 2 [v.row]))])
  (.own 0) (lk .free [(1000,.dead),(0,.live (.row 199 2 ((l.take k++v::l.drop k).map Span.row))),(1001,.dead)]):=by
 have hlr:(l.map Span.row).length=l.length:=by simp
 refine yuc (by intro h;rw [h] at hlr;simp at hlr;omega) fun cap hc1 hc2=>?_
 rw [hlr] at hc1;by_cases hc:l.length+1<=cap
 . have hw:=zkf (P:=Tryz.prog) (f:=197) (args:=[.osl 1000 2 0 (l.map Span.row).length,i64 k,.own 1001]) (H:=lk .free [(1000,.live (.buf 199 2 (l.map Span.row) cap)),(1001,.live (.row 199 2 [v.row]))])
    (id:=1000) (d:=0) (b:=.buf 199 2 ((l.take k++v::l.drop k).map Span.row) cap) (t:=199) (n:=2) (k:=l.length+1) (rows:=(l.take k++v::l.drop k).map Span.row) (L:=[(1001,.dead)]) ?_ (.inr ⟨cap,rfl⟩) zz3 rfl zz4
   . rwa [zy35 zz3] at hw
   refine zaq mixed Tryz.func197 zz4 [1000,1001] (fun i=>by rcases zbq (L:=[(1000,zai.live (.buf 199 2 (l.map Span.row) cap)),(1001,.live (.row 199 2 [v.row]))]) i with h | h;exact .inl h;exact .inr h) ?_;(conv=>whnf);refine sO ?_;refine sN ?_;refine zao (z:=((l.map Span.row).length:Int)+1) (zbt zz0 zz0) (zw ?_);refine zaa zz0 (zw ?_);refine sN ?_;refine zao (z:=((l.map Span.row).length:Int)+1) (zbt zz0 zz0) (zw ?_);refine sO ?_;refine zbv (z':=((k+1:Nat):Int)) ?_ ?_
   . show W ((k:Int)+1)=_
     rw [zbt (by omega) (by omega)];push_cast;rfl
   (conv=>whnf);refine sO ?_;refine yzm (xev rfl rfl zz4) (zw ?_);refine zbv (z':=((k+1:Nat):Int)) ?_ ?_
   . show W ((k:Int)+1)=_
     rw [zbt (by omega) (by omega)];push_cast;rfl
   (conv=>whnf);refine sO ?_;refine sO ?_;refine zhf (o':=k) (n':=l.length-k) zz5 ?_ ?_
   . show min _ _=l.length-k
     simp;omega
   refine zfk (l:=l) zz0 ?_;(conv=>whnf);refine sOm ?_;refine zaw ?_ ?_
   . kernel_rfl
   (conv=>whnf);refine sO ?_;refine zaa zz63 (zw ?_);refine zap [(1000,some 1000),(1001,some 1001)] rfl rfl ⟨rfl,rfl,trivial⟩ rfl ?_ ⟨⟨rfl,.inl ⟨1000,rfl,?_⟩⟩,rfl,trivial⟩
   . show HV.osl 1000 2 0 _=HV.osl 1000 2 0 _
     congr 1;simp
   . refine (congrArg (fun r=>zai.live (.buf _ 2 r cap)) (yzx (rows:=l.map Span.row) (k:=k) zz0 ?_ ?_ ?_ ?_)).trans ?_
     . simp<;>omega
     . rw [zy104]
     . simp<;>omega
     . simp<;>omega
     . refine congrArg (fun r=>zai.live (.buf _ 2 r cap)) (xhj (f:=Span.row) ?_)
       simp;omega
 . refine zaq mixed Tryz.func197 zz4 [1000,1001] (fun i=>by rcases zbq (L:=[(1000,zai.live (.buf 199 2 (l.map Span.row) cap)),(1001,.live (.row 199 2 [v.row]))]) i with h | h;exact .inl h;exact .inr h) ?_
   (conv=>whnf);refine sO ?_;refine sN ?_;refine zao (z:=((l.map Span.row).length:Int)+1) (zbt zz0 zz0) (zw ?_);refine zaa zz0 (zw ?_);refine sT ?_;refine sO ?_;refine zao (z:=((l.map Span.row).length:Int)+1) (zbt zz0 zz0) (zw ?_);refine zbv (z':=((l.length+1-k:Nat):Int)) ?_ ?_
   . show W (((l.map Span.row).length:Int)+1-k)=_
     rw [zbt (by omega) (by omega)];omega
   (conv=>whnf);refine zaa (show 0<=_/\_<=_/\_<_/\_<=_/\(_:Int)*16<=(140737488355328:Int) from ?_) ?_
   . simp;omega
   (conv=>whnf);refine zaa ?_ ?_
   . simp;omega
   (conv=>whnf);refine zaa zz63 (zw ?_);refine zbv (z':=((k+1:Nat):Int)) ?_ ?_
   . show W ((k:Int)+1)=_
     rw [zbt (by omega) (by omega)];push_cast;rfl
   (conv=>whnf);refine zaa zz63 (zw ?_);refine zaa zz63 (zw ?_);refine zhf (o':=k) (n':=l.length-k) zz5 ?_ ?_
   . show min _ _=l.length-k
     simp [zcv];omega
   refine zfk (l:=l) zz0 ?_;(conv=>whnf);refine zaa zz63 (zw ?_);refine zaw ?_ ?_
   . kernel_rfl
   (conv=>whnf);refine zap [(1000,some 1000),(0,some 40),(1001,some 1001)] rfl rfl ⟨rfl,rfl,trivial⟩ rfl rfl ⟨rfl,⟨rfl,.inl ⟨40,rfl,?_⟩⟩,rfl,trivial⟩;refine (congrArg (fun r=>zai.live (.row _ 2 r)) (yzw (rows:=l.map Span.row) (k:=k) zz0 ?_ ?_ ?_ ?_ ?_)).trans ?_
   . simp
   . simp
   . simp;omega
   . simp
   . rw [zy104]
   . refine congrArg (fun r=>zai.live (.row _ 2 r)) (xhj (f:=Span.row) ?_)
     simp;omega
theorem ykf (a b:List Span) (v:Span) (k:Int) (hk:k=a.length) (hb:(a++b).length<2 ^ 40) :
 zan Tryz.prog 197 [.own 1000,i64 k,.own 1001] (lk .free [(1000,.live (.row 199 2 ((a++b).map Span.row))),(1001,.live (.row 199 2 [v.row]))])
  (.own 0) (lk .free [(1000,.dead),(0,.live (.row 199 2 ((a++v::b).map Span.row))),(1001,.dead)]):=by
 subst hk;cases b with
 | nil =>
  rw [zy5] at hb ⊢;exact yfw a v hb
 | cons x b =>
  have h:=yfx (a++x::b) a.length v zz5 hb
  rwa [zy130,zy105] at h
namespace Snd
open Ser
theorem xgi (l:List zak) (i j:Nat) (hij:i<=j) (hj:j<=l.length) (hb:l.length<2 ^ 40) :
 zan Tryz.prog 139 [.osl 1000 10 0 (l.map zak.row).length,i64 i,i64 j] (lk .free [(1000,.live (.row 117 10 (l.map zak.row)))])
  (.osl 1000 10 0 (l.length-(j-i))) (lk .free [(1000,.live (.row 117 10 ((l.take i++l.drop j).map zak.row++List.replicate (j-i) [pi 0,pi 0,pi 0,pi 0,pi 0,pi 0,pb false,pi 0,pi 0,.v (.slice none 0 0)])))]):=by
 refine zaq mixed Tryz.func139 zz4 [1000] zbq ?_;have hlr:(l.map zak.row).length=l.length:=by simp
 (conv=>whnf);refine sO ?_;by_cases h:i=j
 . subst h
   refine sT ?_;refine zap [(1000,some 1000)] rfl rfl ⟨rfl,trivial⟩ rfl ?_ ⟨⟨rfl,.inl ⟨1000,rfl,?_⟩⟩,trivial⟩
   . show HV.osl 1000 10 0 (l.length-(i-i))=HV.osl 1000 10 0 (l.map zak.row).length
     rw [hlr,zy95];rfl
   . show zai.live (.row _ 10 (l.map zak.row))=zai.live (.row _ 10 _)
     rw [zy32,zy95,zy135,zy5]
 . refine sN ?_
   refine sO ?_;refine sO ?_;refine ⟨_,rfl,?_,?_⟩
   . rw [hlr];omega
   (conv=>whnf);refine zaa zz3 ?_;(conv=>whnf);refine zaw ?_ ?_
   . kernel_rfl
   (conv=>whnf);refine zaa zz63 ?_;(conv=>whnf);refine zaa zz63 ?_;(conv=>whnf);refine zap [(1000,some 1000)] rfl rfl ⟨rfl,trivial⟩ rfl ?_ ⟨⟨rfl,.inl ⟨1000,rfl,?_⟩⟩,trivial⟩
   . show HV.osl 1000 10 0 _=HV.osl 1000 10 0 _
     congr 1;simp;omega
   . refine (congrArg (fun r=>zai.live (.row _ 10 r)) (yav (rows:=l.map zak.row) (i:=i) (j:=j) (z:=[pi 0,pi 0,pi 0,pi 0,pi 0,pi 0,pb false,pi 0,pi 0,.v (.slice none 0 0)]) hij (by rw [hlr];exact hj) ?_ ?_ ?_ ?_ ?_)).trans ?_
     . simp<;>omega
     . simp<;>omega
     . simp<;>omega
     . simp;omega
     . simp;omega
     . rw [zy34,zy122,zy104];rfl
theorem xfv (l:List zak) (i j:Nat) (hij:i<=j) (hj:j<=l.length) (hb:l.length<2 ^ 40) :
 zan Tryz.prog 139 [.own 1000,i64 i,i64 j] (lk .free [(1000,.live (.row 117 10 (l.map zak.row)))])
  (.own 0) (lk .free [(1000,.dead),(0,.live (.row 117 10 ((l.take i++l.drop j).map zak.row)))]):=by
 have h:=zkf (d:=0) (L:=[]) (rows:=(l.take i++l.drop j).map zak.row++List.replicate (j-i) [pi 0,pi 0,pi 0,pi 0,pi 0,pi 0,pb false,pi 0,pi 0,.v (.slice none 0 0)]) (zvl (xgi l i j hij hj hb)) (.inl rfl) zz3 rfl zz4
 rwa [zy86 zz3] at h
theorem zkn (s:zhv) (m:zak) (bytes:Int) (zyb:Bool) (hb:s.had.length<2 ^ 40) (c2:0<=m.message.stream) (c3:m.message.stream<s.had.length) :
 zan Tryz.prog 138 [s.hv,m.hv,i64 bytes,zbj zyb] zad (.agg [i64 (Sch.had s m bytes zyb).last,i64 (Sch.had s m bytes zyb).hand,.own 0]) (lk .free [(0,zxu (Sch.had s m bytes zyb).had)]):=by
 have hy:(s.had.map fun n=>[pi n]).set m.message.stream.toNat [pi (W (s.had[m.message.stream.toNat]+bytes))]=(Sch.had s m bytes zyb).had.map fun n=>[pi n]:=by
  simp only [Sch.had,zy1 (And.intro c2 c3)];rw [zy62,zy3 (by omega)]
  rfl
 refine zaq mixed Tryz.func138 zz4 [] (fun _=>.inl rfl) ?_;(conv=>whnf)
 (refine zat [(0,11)] ?_;(conv=>whnf);refine dO (Sch.zdu s hb) ?_)
 refine sD ?_;refine zah (fun c1=>?_) (fun c1=>?_)
 all_goals
  subst c1;(conv=>whnf)
  repeat refine sG ?_
  refine zac ?_ ?_
  . simpa using c2
  (conv=>whnf);refine zac ?_ ?_
  . simpa using c3
  conv=>whnf
  repeat refine sG ?_
  refine sOm ?_;refine zcd (r:=[pi s.had[m.message.stream.toNat]]) zz0 (by rw [zy22,zy17,zy3 (h:=show m.message.stream.toNat<s.had.length by omega)];rfl) ?_;(conv=>whnf);refine zce (zw ?_);refine sOm ?_;refine zcd (r:=[pi s.had[m.message.stream.toNat]]) zz0 (by rw [zy22,zy17,zy3 (h:=show m.message.stream.toNat<s.had.length by omega)];rfl) ?_;(conv=>whnf);refine zap [(0,some 11)] rfl rfl trivial rfl rfl ⟨⟨rfl,.inl ⟨11,rfl,?_⟩⟩,trivial⟩;exact zar hy
theorem yvb {α:Type} {p:α->Bool}:∀ {l:List α} {k:Nat},0<=zch p k l->∃ i,i<l.length/\zch p k l=((k+i:Nat):Int)
 | [],k,h=>by simp [zch] at h
 | y::r,k,h=>by
  simp only [zch] at h ⊢;split at h
  . rename_i hp;exact ⟨0,by simp,by rw [zy1 hp];simp⟩
  . rename_i hp
    obtain ⟨i,h1,h2⟩:=yvb h;exact ⟨i+1,by simp;omega,by rw [zy0 hp,h2];congr 1;omega⟩
theorem ydj {t:Int} {s:zhv} {q:List zak} (h:0<=Sch.next t s q):∃ k:Nat,k<q.length/\Sch.next t s q=k:=by
 have hf:∀ st,0<=Sch.first q st->∃ k:Nat,k<q.length/\Sch.first q st=k:=fun st h=>by
  obtain ⟨i,h1,h2⟩:=yvb h;exact ⟨i,h1,by rw [Sch.first,h2];simp⟩
 have ha:∀ (j k:Nat) (last n:Int),0<=Sch.after q last n k j->∃ i:Nat,i<q.length/\Sch.after q last n k j=i:=by
  intro j
  induction j with
  | zero=>intro k last n h;simp [Sch.after] at h
  | succ j ih =>
   intro k last n h;rw [Sch.after] at h ⊢;split at h
   . rename_i c;rw [zy1 c];exact hf _ h
   . rename_i c;rw [zy0 c];exact ih _ _ _ h
 have hr:∀ (j k:Nat),0<=Sch.zgy q k j->∃ i:Nat,i<q.length/\Sch.zgy q k j=i:=by
  intro j
  induction j with
  | zero=>intro k h;simp [Sch.zgy] at h
  | succ j ih =>
   intro k h;rw [Sch.zgy] at h ⊢;split at h
   . rename_i c;rw [zy1 c];exact hf _ h
   . rename_i c;rw [zy0 c];exact ih _ h
 unfold Sch.next at h ⊢;split at h
 . omega
 rename_i c0;rw [zy0 c0];split at h
 . omega
 rename_i c1;rw [zy0 c1];split at h
 . rename_i c;rw [zy1 c]
   split at h
   . rename_i c;rw [zy1 c];obtain ⟨i,h1,h2⟩:=yvb h;exact ⟨i,h1,by rw [Sch.zqa,h2];simp⟩
   . rename_i c;rw [zy0 c];exact ha _ _ _ _ h
 rename_i c;rw [zy0 c];split at h
 . rename_i c;rw [zy1 c];exact ha _ _ _ _ h
 rename_i c;rw [zy0 c];split at h
 . rename_i c;rw [zy1 c];exact hr _ _ h
 rename_i c;rw [zy0 c];split at h
 . rename_i c;rw [zy1 c];unfold Sch.least at h ⊢
   split at h
   . omega
   . rename_i c;rw [zy0 c];exact hf _ h
 . rename_i c;rw [zy0 c];exact ⟨0,by omega,rfl⟩
structure zup (s:zag) (m:zak):Prop where
 mid:xih s m
 had:m.message.stream<s.sched.had.length
 sent:0<=m.sent
 left:m.sent<m.message.data.length
 data:m.message.data.length<2 ^ 30
structure xfr (s:zag):Prop where
 g:ylw s
 some:0<s.paths.length
 part:1<=s.config.part
 part2:s.config.part<2 ^ 30
 msg:∀ m∈s.queue,zup s m
def nx (s:zag) (o:List (List Chunk)):zew×Bool:=match next ⟨s,o⟩ with
 | none=>(⟨s,o⟩,false)
 | some q=>(q,true)
theorem yoh {s:zag} {o:List (List Chunk)} (h:zec s<0):nx s o=(⟨s,o⟩,false):=by
 rw [nx,next,zy1 (.inl h)]
theorem yoi {s:zag} {o:List (List Chunk)} {w:Path} (hw:s.paths[choose s]?=some w) (h:¬ w.zba<w.window):nx s o=(⟨s,o⟩,false):=by
 rw [nx,next,zy1 (.inr (.inl (by simp only [opened,hw];simpa using h)))]
theorem yoj {s:zag} {o:List (List Chunk)} (h:(s.out.length:Int)>=60):nx s o=(⟨s,o⟩,false):=by
 rw [nx,next,zy1 (.inr (.inr h))]
theorem yok {s:zag} {o:List (List Chunk)} {w:Path} {k:Nat} {m:zak} (h1:zec s=k) (hm:s.queue[k]?=some m) (hw:s.paths[choose s]?=some w) (h2:w.zba<w.window) (h3:¬ (s.out.length:Int)>=60) (h4:zba s>0/\W (zba s+many s m)>s.room) :
 nx s o=(⟨s,o⟩,false):=by
 rw [nx,next,zy0 (by rw [h1];rintro (h | h | h);omega;(simp only [opened,hw] at h;simp at h;omega);exact h3 h)];simp only [h1,zy22,hm];rw [zy1 h4]
theorem zwd {s:zag} {o:List (List Chunk)} {w:Path} {k:Nat} {m:zak} (h1:zec s=k) (hm:s.queue[k]?=some m) (hw:s.paths[choose s]?=some w) (h2:w.zba<w.window) (h3:¬ (s.out.length:Int)>=60) (h4:¬ (zba s>0/\W (zba s+many s m)>s.room)) :
 nx s o=(zly ⟨s,o⟩ k m (many s m),true):=by
 rw [nx,next,zy0 (by rw [h1];rintro (h | h | h);omega;(simp only [opened,hw] at h;simp at h;omega);exact h3 h)];simp only [h1,zy22,hm];rw [zy0 h4]
theorem zrq {s:zag} {m:zak} (hp:1<=s.config.part) (hp2:s.config.part<2 ^ 30) (_:0<=m.sent) (h2:m.sent<m.message.data.length) (_:m.message.data.length<2 ^ 30):1<=many s m/\many s m<2 ^ 30/\m.sent+many s m<=m.message.data.length:=by
 unfold many;split<;>omega
abbrev ovr (s:zag) (m:zak):Bool:=m.sent+many s m==((m.message.data.map zco).length:Int)
theorem xct (s:zag) (m:zak):decide (m.sent+many s m=m.message.data.length)=ovr s m:=by
 unfold ovr;rw [zy2,zy110];simp
def m2 (s:zag) (m:zak):zak:={m with mid:=zdg s m,sent:=m.sent+many s m,parts:=W (m.parts+1)}
def x0 (s:zag) (m:zak):zbo:=⟨s.next,m.id,0,0,0,0,m.came,m.message.life,m.message.tries,⟨1,tag s.next,m.message.stream,tag (zdg s m),m.parts,ovr s m,m.message.ordered,(m.message.data.drop m.sent.toNat).take (many s m).toNat,[],0,[]⟩⟩
def s2 (s:zag) (k:Nat) (m:zak):zag:={s with mids:=zdt s m,sched:=Sch.had s.sched {m with mid:=zdg s m} (many s m) (ovr s m),out:=s.out++[x0 s m],next:=W (s.next+1),queue:=s.queue.set k (m2 s m)}
theorem zfx {s:zag} {o:List (List Chunk)} {k c:Nat} {m:zak} {w:Path} {l:List Chunk} (hc:choose s=c) (hw:s.paths[c]?=some w) (hl:o[c]?=some l) :
 zly ⟨s,o⟩ k m (many s m)=⟨{zxy (s2 s k m) s.out.length c (x0 s m) w with queue:=if ovr s m then s.queue.eraseIdx k else s.queue.set k (m2 s m)},o.set c (l++[(x0 s m).chunk])⟩:=by
 have e:=xct s m;unfold zly cut;simp only [e];rw [hc];exact zyr (s:={s2 s k m with queue:=if ovr s m then s.queue.eraseIdx k else s.queue.set k (m2 s m)}) (i:=s.out.length) (x:=x0 s m) (a:=w) (l:=l) zz139 hw hl
theorem yra {s:zag} {k:Nat} {m:zak} {t:TypeId} {r1:List PV}:zai.live (.row t 10 ((((zix s k m).queue.map zak.row).set k r1).set k (m2 s m).row))=zai.live (.row t 10 ((s2 s k m).queue.map zak.row)):=by
 rw [zy140];exact (zfg (f:=zak.row) (y:=m2 s m) rfl).trans (zar (by show ((s.queue.set k _).set k _).map _=_;rw [zy140];rfl))
theorem zke {α:Type} {l:List α} {k:Nat} {y:α} (_:k<l.length):(l.set k y).take k++(l.set k y).drop (k+1)=l.eraseIdx k:=by
 rw [zy61,List.take_set_of_le (zy24 _),List.drop_set_of_lt (zy150 _)]
theorem zsg (s:zag) (a:List Chunk) (hs:xfr s) (h1p:s.paths.length=1) (hb:a.length<2 ^ 29):zan Tryz.prog 96 [.ptr 1000 0] (lk .free (pH1 s a)) (zbj (nx s [a]).2) (lk .free (pD1 (nx s [a]).1.s (ygk (nx s [a]).1.out))):=by
 obtain ⟨g,hp,hp1,hp2,hmsg⟩:=hs;obtain ⟨⟨f1,f2,f3,f4,f5,f6,f7⟩,g2,g3,g4⟩:=g;obtain ⟨hch,hch2⟩:=zdn hp;have hc0:choose s=0:=by omega
 have pc:=Paths.zeq s.paths zz0;rw [hch,hc0] at pc;have pn:=Sch.zxb s.config.turns s.sched s.queue zz0 zz0;obtain ⟨w,hw⟩:∃ w,s.paths[0]?=some w:=⟨_,zy3 zz0⟩
 have hwc:s.paths[choose s]?=some w:=by rw [hc0];exact hw
 generalize hG:nx s [a]=G;refine zaq mixed Tryz.func96 zz4 [1000,1001,1002,1003,1004,1005,1006,1007,1008] zbq ?_;(conv=>whnf)
 (refine cL ?_;refine dL pc ?_)
 by_cases c1:zec s<0
 case pos =>
  (refine cL ?_;refine dL pn ?_)
  refine sD ?_;refine zac ?_ ?_
  . exact zy9 c1
  (conv=>whnf);rw [yoh c1] at hG;exact yy39
 obtain ⟨k,hkl,hke⟩:=ydj (t:=s.config.turns) (s:=s.sched) (q:=s.queue) zz134;have hke':zec s=k:=hke;rw [hke] at pn;obtain ⟨m,hm⟩:∃ m,s.queue[k]?=some m:=⟨_,zy3 hkl⟩
 have hmf:=hmsg m (zy20 hm);obtain ⟨mf,mh,ms,ml,md⟩:=hmf;obtain ⟨n1,n2,n3⟩:=zrq (s:=s) (m:=m) hp1 hp2 ms ml md
 (refine cL ?_;refine dL pn ?_)
 refine sD ?_
 try (refine zab ?_ ?_;· simp;conv=>whnf)
 refine sOm ?_;refine zam hw rfl (zw ?_)
 (refine cL ?_;refine dL (Paths.zkp w) ?_)
 by_cases c2:w.zba<w.window
 case neg =>
  refine zac ?_ ?_
  . simpa using c2
  (conv=>whnf);rw [yoi hwc c2] at hG;exact yy39
 refine zab ?_ ?_
 . simpa using c2
 (conv=>whnf);by_cases c3:(s.out.length:Int)>=60
 case pos =>
  refine zac ?_ ?_
  . rw [zy2];exact zy9 c3
  (conv=>whnf);rw [yoj c3] at hG;exact yy39
 refine zab ?_ ?_
 . rw [zy2];exact zy11 c3
 conv=>whnf
 repeat refine sG ?_
 refine sOm ?_;refine zam hm rfl (zw ?_);refine zam hm rfl (zw ?_);refine zbv (z':=(m.message.data.length:Int)-m.sent) ?_ ?_
 . show W _=_
   rw [zy2];exact zbt zz0 zz0
 (conv=>whnf);refine sD ?_
 (refine zaf [] [(1000,1000),(1001,1001),(1002,1002),(1003,1003),(1004,1004),(1005,1005),(1006,1006),(1007,1007),(1008,1008)] [] ?_;(conv=>whnf);refine dG (yhx s a f4) ?_)
 have hWs:W (m.sent+many s m)=m.sent+many s m:=zbt zz0 zz0;by_cases c4:zba s>0
 case pos =>
  refine zac ?_ ?_
  . exact zy9 c4
  (conv=>whnf);refine sR ?_;by_cases c5:W (zba s+many s m)>s.room
  case pos =>
   refine zac ?_ ?_
   . exact zy9 c5
   (conv=>whnf);rw [yok hke' hm hwc c2 c3 ⟨c4,c5⟩] at hG;exact yy39
  refine zab ?_ ?_
  . exact zy11 c5
  conv=>whnf
  repeat refine sG ?_
  rw [zwd hke' hm hwc c2 c3 fun h=>c5 h.2] at hG;exact yy2
 refine zab ?_ ?_
 . exact zy11 c4
 conv=>whnf
 repeat refine sG ?_
 rw [zwd hke' hm hwc c2 c3 fun h=>c4 h.1] at hG;exact yy2
end Snd
namespace Snd
open Ser
theorem yic (s:zag) (a b:List Chunk) (hs:xfr s) (h1p:s.paths.length=2) (hc0:choose s=0) (hb:a.length+b.length<2 ^ 29):zan Tryz.prog 96 [.ptr 1000 0] (lk .free (pH2 s a b)) (zbj (nx s [a,b]).2) (lk .free (pD2 (nx s [a,b]).1.s (ygk (nx s [a,b]).1.out) (yog (nx s [a,b]).1.out))):=by
 obtain ⟨g,hp,hp1,hp2,hmsg⟩:=hs;obtain ⟨⟨f1,f2,f3,f4,f5,f6,f7⟩,g2,g3,g4⟩:=g;obtain ⟨hch,hch2⟩:=zdn hp;have pc:=Paths.zeq s.paths zz0;rw [hch,hc0] at pc;have pn:=Sch.zxb s.config.turns s.sched s.queue zz0 zz0;obtain ⟨w,hw⟩:∃ w,s.paths[0]?=some w:=⟨_,zy3 zz0⟩
 have hwc:s.paths[choose s]?=some w:=by rw [hc0];exact hw
 generalize hG:nx s [a,b]=G;refine zaq mixed Tryz.func96 zz4 [1000,1001,1002,1003,1004,1005,1006,1007,1008,1009] zbq ?_;(conv=>whnf)
 (refine cL ?_;refine dL pc ?_)
 by_cases c1:zec s<0
 case pos =>
  (refine cL ?_;refine dL pn ?_)
  refine sD ?_;refine zac ?_ ?_
  . exact zy9 c1
  (conv=>whnf);rw [yoh c1] at hG;exact yy16
 obtain ⟨k,hkl,hke⟩:=ydj (t:=s.config.turns) (s:=s.sched) (q:=s.queue) zz134;have hke':zec s=k:=hke;rw [hke] at pn;obtain ⟨m,hm⟩:∃ m,s.queue[k]?=some m:=⟨_,zy3 hkl⟩
 have hmf:=hmsg m (zy20 hm);obtain ⟨mf,mh,ms,ml,md⟩:=hmf;obtain ⟨n1,n2,n3⟩:=zrq (s:=s) (m:=m) hp1 hp2 ms ml md
 (refine cL ?_;refine dL pn ?_)
 refine sD ?_
 try (refine zab ?_ ?_;· simp;conv=>whnf)
 refine sOm ?_;refine zam hw rfl (zw ?_)
 (refine cL ?_;refine dL (Paths.zkp w) ?_)
 by_cases c2:w.zba<w.window
 case neg =>
  refine zac ?_ ?_
  . simpa using c2
  (conv=>whnf);rw [yoi hwc c2] at hG;exact yy16
 refine zab ?_ ?_
 . simpa using c2
 (conv=>whnf);by_cases c3:(s.out.length:Int)>=60
 case pos =>
  refine zac ?_ ?_
  . rw [zy2];exact zy9 c3
  (conv=>whnf);rw [yoj c3] at hG;exact yy16
 refine zab ?_ ?_
 . rw [zy2];exact zy11 c3
 conv=>whnf
 repeat refine sG ?_
 refine sOm ?_;refine zam hm rfl (zw ?_);refine zam hm rfl (zw ?_);refine zbv (z':=(m.message.data.length:Int)-m.sent) ?_ ?_
 . show W _=_
   rw [zy2];exact zbt zz0 zz0
 (conv=>whnf);refine sD ?_
 (refine zaf [] [(1000,1000),(1001,1001),(1002,1002),(1003,1003),(1004,1004),(1005,1005),(1006,1006),(1007,1007),(1008,1008),(1009,1009)] [] ?_;(conv=>whnf);refine dG (ztn s a b f4) ?_)
 have hWs:W (m.sent+many s m)=m.sent+many s m:=zbt zz0 zz0;by_cases c4:zba s>0
 case pos =>
  refine zac ?_ ?_
  . exact zy9 c4
  (conv=>whnf);refine sR ?_;by_cases c5:W (zba s+many s m)>s.room
  case pos =>
   refine zac ?_ ?_
   . exact zy9 c5
   (conv=>whnf);rw [yok hke' hm hwc c2 c3 ⟨c4,c5⟩] at hG;exact yy16
  refine zab ?_ ?_
  . exact zy11 c5
  conv=>whnf
  repeat refine sG ?_
  rw [zwd hke' hm hwc c2 c3 fun h=>c5 h.2] at hG;exact yy0
 refine zab ?_ ?_
 . exact zy11 c4
 conv=>whnf
 repeat refine sG ?_
 rw [zwd hke' hm hwc c2 c3 fun h=>c4 h.1] at hG;exact yy0
end Snd
namespace Snd
open Ser
theorem yid (s:zag) (a b:List Chunk) (hs:xfr s) (h1p:s.paths.length=2) (hc0:choose s=1) (hb:a.length+b.length<2 ^ 29):zan Tryz.prog 96 [.ptr 1000 0] (lk .free (pH2 s a b)) (zbj (nx s [a,b]).2) (lk .free (pD2 (nx s [a,b]).1.s (ygk (nx s [a,b]).1.out) (yog (nx s [a,b]).1.out))):=by
 obtain ⟨g,hp,hp1,hp2,hmsg⟩:=hs;obtain ⟨⟨f1,f2,f3,f4,f5,f6,f7⟩,g2,g3,g4⟩:=g;obtain ⟨hch,hch2⟩:=zdn hp;have pc:=Paths.zeq s.paths zz0;rw [hch,hc0] at pc;have pn:=Sch.zxb s.config.turns s.sched s.queue zz0 zz0;obtain ⟨w,hw⟩:∃ w,s.paths[1]?=some w:=⟨_,zy3 zz0⟩
 have hwc:s.paths[choose s]?=some w:=by rw [hc0];exact hw
 generalize hG:nx s [a,b]=G;refine zaq mixed Tryz.func96 zz4 [1000,1001,1002,1003,1004,1005,1006,1007,1008,1009] zbq ?_;(conv=>whnf)
 (refine cL ?_;refine dL pc ?_)
 by_cases c1:zec s<0
 case pos =>
  (refine cL ?_;refine dL pn ?_)
  refine sD ?_;refine zac ?_ ?_
  . exact zy9 c1
  (conv=>whnf);rw [yoh c1] at hG;exact yy16
 obtain ⟨k,hkl,hke⟩:=ydj (t:=s.config.turns) (s:=s.sched) (q:=s.queue) zz134;have hke':zec s=k:=hke;rw [hke] at pn;obtain ⟨m,hm⟩:∃ m,s.queue[k]?=some m:=⟨_,zy3 hkl⟩
 have hmf:=hmsg m (zy20 hm);obtain ⟨mf,mh,ms,ml,md⟩:=hmf;obtain ⟨n1,n2,n3⟩:=zrq (s:=s) (m:=m) hp1 hp2 ms ml md
 (refine cL ?_;refine dL pn ?_)
 refine sD ?_
 try (refine zab ?_ ?_;· simp;conv=>whnf)
 refine sOm ?_;refine zam hw rfl (zw ?_)
 (refine cL ?_;refine dL (Paths.zkp w) ?_)
 by_cases c2:w.zba<w.window
 case neg =>
  refine zac ?_ ?_
  . simpa using c2
  (conv=>whnf);rw [yoi hwc c2] at hG;exact yy16
 refine zab ?_ ?_
 . simpa using c2
 (conv=>whnf);by_cases c3:(s.out.length:Int)>=60
 case pos =>
  refine zac ?_ ?_
  . rw [zy2];exact zy9 c3
  (conv=>whnf);rw [yoj c3] at hG;exact yy16
 refine zab ?_ ?_
 . rw [zy2];exact zy11 c3
 conv=>whnf
 repeat refine sG ?_
 refine sOm ?_;refine zam hm rfl (zw ?_);refine zam hm rfl (zw ?_);refine zbv (z':=(m.message.data.length:Int)-m.sent) ?_ ?_
 . show W _=_
   rw [zy2];exact zbt zz0 zz0
 (conv=>whnf);refine sD ?_
 (refine zaf [] [(1000,1000),(1001,1001),(1002,1002),(1003,1003),(1004,1004),(1005,1005),(1006,1006),(1007,1007),(1008,1008),(1009,1009)] [] ?_;(conv=>whnf);refine dG (ztn s a b f4) ?_)
 have hWs:W (m.sent+many s m)=m.sent+many s m:=zbt zz0 zz0;by_cases c4:zba s>0
 case pos =>
  refine zac ?_ ?_
  . exact zy9 c4
  (conv=>whnf);refine sR ?_;by_cases c5:W (zba s+many s m)>s.room
  case pos =>
   refine zac ?_ ?_
   . exact zy9 c5
   (conv=>whnf);rw [yok hke' hm hwc c2 c3 ⟨c4,c5⟩] at hG;exact yy16
  refine zab ?_ ?_
  . exact zy11 c5
  conv=>whnf
  repeat refine sG ?_
  rw [zwd hke' hm hwc c2 c3 fun h=>c5 h.2] at hG;exact yy1
 refine zab ?_ ?_
 . exact zy11 c4
 conv=>whnf
 repeat refine sG ?_
 rw [zwd hke' hm hwc c2 c3 fun h=>c4 h.1] at hG;exact yy1
theorem yrn (s:zag) (a b:List Chunk) (hs:xfr s) (h1p:s.paths.length=2) (hb:a.length+b.length<2 ^ 29):zan Tryz.prog 96 [.ptr 1000 0] (lk .free (pH2 s a b)) (zbj (nx s [a,b]).2) (lk .free (pD2 (nx s [a,b]).1.s (ygk (nx s [a,b]).1.out) (yog (nx s [a,b]).1.out))):=by
 have hc01:choose s=0\/choose s=1:=by have:=(zdn hs.some).2;omega
 exact hc01.elim (fun h=>yic s a b hs h1p h hb) fun h=>yid s a b hs h1p h hb
end Snd
namespace Snd
open Ser
abbrev zhh (l:List zau):zai:=.live (.row 110 3 (l.map zau.row))
abbrev roK (l:List Chunk):zai:=.ro (.row 61 11 (l.map Chunk.row))
def xiu (id:Nat):List Chunk->List Chunk->HV
 | [],_=>.own id
 | _::a,b=>.osl id 11 (a.length+1) b.length
theorem zpz {α:Type} {f:α->List PV} {l a b c:List α} {o n:Nat} {K:List (List PV)->Prop} (h:l=a++b++c) (ho:o=a.length) (hn:n=b.length) (hk:K (b.map f)):zrn (l.map f) o n K:=by
 subst h ho hn;refine ⟨_,rfl,by simp,?_⟩
 rwa [<- zy104,<- zy122,zy28,zy105,zy130]
theorem zhy {i s o o' n n':Nat} (ho:o=o') (hn:n=n'):HV.osl i s o n=.osl i s o' n':=by rw [ho,hn]
theorem zwq {most:Int} {l:List Chunk} (h:l≠[]):∃ k:Nat,zcb most l=k/\1<=k/\k<=l.length:=by
 obtain ⟨r,h1,h2,-⟩:=Pck.yjl l most;have h3:=zy36.2 h;have h4:=h2.1;unfold zcb;rw [h1];split
 . exact ⟨1,rfl,by omega,by omega⟩
 . exact ⟨r,rfl,by omega,by omega⟩
theorem zms (most path:Int) (n:Nat):zfm most path n []=[]:=by cases n<;>simp [zfm]
def Okc (c:Chunk):Prop:=c.zas.length<2 ^ 38/\c.zbr.length<2 ^ 38
abbrev pE1 (s:zag) (ps:List zau):List (Nat×zai):=(1000,.live (.cells 139 (yyt s (.own 1001) (.own 1002) (.own 1003) (.own 1004) (.own 1005) (.own 1006) (.own 1007))))::zzt s 1001 1002 1003 1004 1005 1006 [(1007,.dead),(1008,.dead),(0,zhh ps)]
abbrev pR1 (s:zag) (a:List Chunk) (L:List (Nat×zai)):List (Nat×zai):=(1000,.live (.cells 139 (yyt s (.own 1001) (.own 1002) (.own 1003) (.own 1004) (.own 1005) (.own 1006) (.own 1007))))::zzt s 1001 1002 1003 1004 1005 1006 ((1007,.live (.cells 145 [.own 1008]))::(1008,roK a)::L)
abbrev pE2 (s:zag) (ps:List zau):List (Nat×zai):=(1000,.live (.cells 139 (yyt s (.own 1001) (.own 1002) (.own 1003) (.own 1004) (.own 1005) (.own 1006) (.own 1007))))::zzt s 1001 1002 1003 1004 1005 1006 [(1007,.dead),(1008,.dead),(1009,.dead),(0,zhh ps)]
abbrev pR2 (s:zag) (a b:List Chunk) (L:List (Nat×zai)):List (Nat×zai):=(1000,.live (.cells 139 (yyt s (.own 1001) (.own 1002) (.own 1003) (.own 1004) (.own 1005) (.own 1006) (.own 1007))))::zzt s 1001 1002 1003 1004 1005 1006 ((1007,.live (.cells 145 [.own 1008,.own 1009]))::(1008,roK a)::(1009,roK b)::L)
theorem ycz (s:zag) (a:List Chunk) (hm:inI s.config.packet) (ha:a.length<2 ^ 29) (hka:∀ c∈a,Okc c):zan Tryz.prog 97 [.ptr 1000 0] (lk .free (pH1 s a)) (.own 0) (lk .free (pE1 s (zbs s.config.packet 0 [a]))):=by
 generalize hT:zbs s.config.packet 0 [a]=T;refine zaq mixed Tryz.func97 zz4 [1000,1001,1002,1003,1004,1005,1006,1007,1008] zbq ?_;(conv=>whnf);refine ⟨{x:Nat×List zau // x.1<=1/\x.2.length<=x.1*2 ^ 29/\x.2++zbs s.config.packet x.1 ([a].drop x.1)=T},
  fun | ⟨(i,acc),_⟩=>hsP [1000,1001,1002,1003,1004,1005,1006,1007,1008] 57 [(0,.ptr 1000 0),(3,.own 900),(12,.own 1007),(13,i64 1),(14,i64 i)] (pR1 s a [(900,zhh acc)]),fun x=>1-x.1.1,⟨(0,[]),by dsimp only;omega,by simp,hT⟩,?_,?_⟩
 . exact (zdj (pK9 [(900,none)]))
 rintro ⟨⟨i,acc⟩,k1,k3,k2⟩;dsimp only at k1 k2 k3;refine zbx fun Q hQ=>?_
 have hi:i=0\/i=1:=by omega
 rcases hi with rfl | rfl
 case inl =>
  have hdr:zbs s.config.packet 0 ([a].drop 0)=zfm s.config.packet 0 a.length a++zbs s.config.packet (0+1) ([a].drop (0+1)):=rfl;rw [hdr] at k2;(conv=>whnf);refine ⟨0,rfl,by decide,zw ?_⟩;refine ⟨{x:(List Chunk×List Chunk)×Nat×List zau // a=x.1.1++x.1.2/\x.1.2.length<=x.2.1/\x.2.2.length+x.1.2.length<=(0+1)*2 ^ 29/\x.2.2++(zfm s.config.packet 0 x.2.1 x.1.2++zbs s.config.packet (0+1) ([a].drop (0+1)))=T},
   fun | ⟨((A,B),n,acc),_⟩=>hsP [1000,1001,1002,1003,1004,1005,1006,1007,1008] 57 [(0,.ptr 1000 0),(3,.own 900),(4,i64 0),(5,xiu 1008 A B),(12,.own 1007),(13,i64 1),(14,i64 0)] (pR1 s a [(900,zhh acc)]),fun x=>x.1.1.2.length,⟨(([],a),a.length,acc),rfl,by simp,by dsimp only;omega,k2⟩,?_,?_⟩
  . exact (zdj (pK9 [(900,some 900)]))
  rintro ⟨⟨⟨A,B⟩,n,acc⟩,i1,i2,i4,i3⟩;dsimp only at i1 i2 i3 i4;refine zbx fun Q2 hQ2=>?_
  have hz:a.length=A.length+B.length:=by rw [i1];simp
  have hko:∀ c∈a,Okc c:=hka;by_cases hB:B=[]
  case pos =>
   subst hB;rw [zms,zy58] at i3;rw [zy12] at hz;cases A with
   | nil =>
    (conv=>whnf);have ha0:a=[]:=zy15 zz157;refine zab ?_ ?_
    . simp [ha0]
    exact yy84
   | cons t A =>
    exact yy84
  case neg =>
  obtain ⟨r,r1,r2,r3⟩:=zwq (most:=s.config.packet) hB;have hBl:=zy36.2 hB;obtain ⟨n,rfl⟩:∃ n',n=n'+1:=⟨n-1,by omega⟩
  have hN:zfm s.config.packet 0 (n+1) B=zlz s.config.packet 0 B++zfm s.config.packet 0 n (B.drop r):=by rw [zfm,zy0 hB,r1,zy22]
  have hP:zlz s.config.packet 0 B=if (Pck.zdb (B.take r) s.config.packet).2=0 then [⟨0,false,(Pck.zdb (B.take r) s.config.packet).1⟩] else []:=by rw [zlz,r1,zy22]
  have hsz:Pck.zev B:=⟨by omega,fun c hc=>hko c zz121⟩
  have hszr:Pck.zev (B.take r):=hsz.take r;rw [hN,zy28] at i3;cases A with
  | nil =>
   have i1':B=a:=i1.symm;subst i1';(conv=>whnf);refine sT ?_
   repeat refine sG ?_
   (refine cL ?_;refine dL (Pck.znr B s.config.packet hsz hm) ?_)
   refine zaa (c:=(0:Int)<=0/\(0:Int)<=zcb s.config.packet B/\zcb s.config.packet B<=((B.map Chunk.row).length:Int)) ⟨by omega,by omega,by rw [zy2];omega⟩ (zw ?_);refine zdd (zw ?_);refine zpz (a:=[]) (b:=B.take r) (c:=B.drop r) zz5 rfl (show (zcb s.config.packet B-0).toNat=_ by rw [r1];simp;omega) ?_;(conv=>whnf);refine ⟨_,Pck.zgk (B.take r) s.config.packet hszr,rfl,zw ?_⟩;refine sD ?_;by_cases ho:(Pck.zdb (B.take r) s.config.packet).2=0
   case pos =>
    rw [zy1 ho] at hP;refine zac ?_ ?_
    . simpa using ho
    (conv=>whnf);refine zaa (c:=((acc.map zau.row).length+1)*40<=140737488355328) zz6 (zw ?_)
    repeat refine sG ?_
    refine zaa (c:=(0:Int)<=zcb s.config.packet B/\zcb s.config.packet B<=((B.map Chunk.row).length:Int)/\((B.map Chunk.row).length:Int)<=((B.map Chunk.row).length:Int)) ⟨by omega,by rw [zy2];omega,by omega⟩ (zw ?_);obtain ⟨x,B1,hx⟩:∃ x B1,B.take r=x::B1:=by
     exact yy29
    have hxl:B1.length+1=r:=by have:=congrArg List.length hx;simp at this;omega
    refine hQ2 _ _ (zw ?_);exact ⟨⟨((x::B1,B.drop r),n,acc++[⟨0,false,(Pck.zdb (B.take r) s.config.packet).1⟩]),by rw [<- hx,zy32],by simp;omega,by simp;omega,by rw [<- i3,hP];simp⟩,(zcc (pK9 [(900,some 51)]) zz8),by simp;omega⟩
   case neg =>
    rw [zy0 ho] at hP;refine zab ?_ ?_
    . simpa using ho
    conv=>whnf
    repeat refine sG ?_
    refine zaa (c:=(0:Int)<=zcb s.config.packet B/\zcb s.config.packet B<=((B.map Chunk.row).length:Int)/\((B.map Chunk.row).length:Int)<=((B.map Chunk.row).length:Int)) ⟨by omega,by rw [zy2];omega,by omega⟩ (zw ?_);obtain ⟨x,B1,hx⟩:∃ x B1,B.take r=x::B1:=by
     exact yy29
    have hxl:B1.length+1=r:=by have:=congrArg List.length hx;simp at this;omega
    refine hQ2 _ _ (zw ?_);exact ⟨⟨((x::B1,B.drop r),n,acc),by rw [<- hx,zy32],by simp;omega,by simp;omega,by rw [<- i3,hP];simp⟩,(zcc (pK9 [(900,some 900)]) zz8),by simp;omega⟩
  | cons t A =>
   have hal:(A.length:Int)+1=((t::A).length:Nat):=by simp
   (conv=>whnf);refine sT ?_
   repeat refine sG ?_
   refine zbh (zw ?_);refine zpz (a:=t::A) (b:=B) (c:=[]) zz136 rfl rfl ?_;(conv=>whnf);refine ⟨_,Pck.znr B s.config.packet hsz hm,rfl,zw ?_⟩
   repeat refine sG ?_
   refine zaa (c:=(0:Int)<=zcb s.config.packet B/\((A.length+1:Nat):Int)+zcb s.config.packet B<=((a.map Chunk.row).length:Int)) ⟨by omega,by rw [zy2,hz,zy6];omega⟩ (zw ?_);refine zdd (zw ?_);refine zpz (a:=t::A) (b:=B.take r) (c:=B.drop r) zz136 rfl (show (zcb s.config.packet B).toNat=_ by rw [r1];simp;omega) ?_;(conv=>whnf);refine ⟨_,Pck.zgk (B.take r) s.config.packet hszr,rfl,zw ?_⟩;refine sD ?_;by_cases ho:(Pck.zdb (B.take r) s.config.packet).2=0
   case pos =>
    rw [zy1 ho] at hP;refine zac ?_ ?_
    . simpa using ho
    (conv=>whnf);refine zaa (c:=((acc.map zau.row).length+1)*40<=140737488355328) zz6 (zw ?_)
    repeat refine sG ?_
    refine zaa (c:=(0:Int)<=zcb s.config.packet B/\zcb s.config.packet B<=(B.length:Int)/\((A.length+1:Nat):Int)+(B.length:Int)<=((a.map Chunk.row).length:Int)) ⟨by omega,by omega,by rw [zy2,hz,zy6];omega⟩ (zw ?_);refine hQ2 _ _ (zw ?_);exact ⟨⟨((t::(A++B.take r),B.drop r),n,acc++[⟨0,false,(Pck.zdb (B.take r) s.config.packet).1⟩]),by rw [i1];simp,by simp;omega,by simp;omega,by rw [<- i3,hP];simp⟩,(zcc (pK9 [(900,some 51)]) zz7),by simp;omega⟩
   case neg =>
    rw [zy0 ho] at hP;refine zab ?_ ?_
    . simpa using ho
    conv=>whnf
    repeat refine sG ?_
    refine zaa (c:=(0:Int)<=zcb s.config.packet B/\zcb s.config.packet B<=(B.length:Int)/\((A.length+1:Nat):Int)+(B.length:Int)<=((a.map Chunk.row).length:Int)) ⟨by omega,by omega,by rw [zy2,hz,zy6];omega⟩ (zw ?_);refine hQ2 _ _ (zw ?_);exact ⟨⟨((t::(A++B.take r),B.drop r),n,acc),by rw [i1];simp,by simp;omega,by simp;omega,by rw [<- i3,hP];simp⟩,(zcc (pK9 [(900,some 900)]) zz7),by simp;omega⟩
 case inr =>
  have k2:acc=T:=by rw [<- k2];simp [zbs]
  subst k2;(conv=>whnf);refine hQ _ _ ?_;conv=>whnf
  (exact zci (pK9 [(0,some 900)]))
theorem yda (s:zag) (a b:List Chunk) (hm:inI s.config.packet) (ha:a.length<2 ^ 29) (hb:b.length<2 ^ 29) (hka:∀ c∈a,Okc c) (hkb:∀ c∈b,Okc c):zan Tryz.prog 97 [.ptr 1000 0] (lk .free (pH2 s a b)) (.own 0) (lk .free (pE2 s (zbs s.config.packet 0 [a,b]))):=by
 generalize hT:zbs s.config.packet 0 [a,b]=T;refine zaq mixed Tryz.func97 zz4 [1000,1001,1002,1003,1004,1005,1006,1007,1008,1009] zbq ?_;(conv=>whnf);refine ⟨{x:Nat×List zau // x.1<=2/\x.2.length<=x.1*2 ^ 29/\x.2++zbs s.config.packet x.1 ([a,b].drop x.1)=T},
  fun | ⟨(i,acc),_⟩=>hsP [1000,1001,1002,1003,1004,1005,1006,1007,1008,1009] 57 [(0,.ptr 1000 0),(3,.own 900),(12,.own 1007),(13,i64 2),(14,i64 i)] (pR2 s a b [(900,zhh acc)]),fun x=>2-x.1.1,⟨(0,[]),by dsimp only;omega,by simp,hT⟩,?_,?_⟩
 . exact (zdj (zic [(900,none)]))
 rintro ⟨⟨i,acc⟩,k1,k3,k2⟩;dsimp only at k1 k2 k3;refine zbx fun Q hQ=>?_
 have hi:i=0\/i=1\/i=2:=by omega
 rcases hi with rfl | rfl | rfl
 case inl =>
  have hdr:zbs s.config.packet 0 ([a,b].drop 0)=zfm s.config.packet 0 a.length a++zbs s.config.packet (0+1) ([a,b].drop (0+1)):=rfl;rw [hdr] at k2;(conv=>whnf);refine ⟨0,rfl,by decide,zw ?_⟩;refine ⟨{x:(List Chunk×List Chunk)×Nat×List zau // a=x.1.1++x.1.2/\x.1.2.length<=x.2.1/\x.2.2.length+x.1.2.length<=(0+1)*2 ^ 29/\x.2.2++(zfm s.config.packet 0 x.2.1 x.1.2++zbs s.config.packet (0+1) ([a,b].drop (0+1)))=T},
   fun | ⟨((A,B),n,acc),_⟩=>hsP [1000,1001,1002,1003,1004,1005,1006,1007,1008,1009] 57 [(0,.ptr 1000 0),(3,.own 900),(4,i64 0),(5,xiu 1008 A B),(12,.own 1007),(13,i64 2),(14,i64 0)] (pR2 s a b [(900,zhh acc)]),fun x=>x.1.1.2.length,⟨(([],a),a.length,acc),rfl,by simp,by dsimp only;omega,k2⟩,?_,?_⟩
  . exact (zdj (zic [(900,some 900)]))
  rintro ⟨⟨⟨A,B⟩,n,acc⟩,i1,i2,i4,i3⟩;dsimp only at i1 i2 i3 i4;refine zbx fun Q2 hQ2=>?_
  have hz:a.length=A.length+B.length:=by rw [i1];simp
  have hko:∀ c∈a,Okc c:=hka;by_cases hB:B=[]
  case pos =>
   subst hB;rw [zms,zy58] at i3;rw [zy12] at hz;cases A with
   | nil =>
    (conv=>whnf);have ha0:a=[]:=zy15 zz157;refine zab ?_ ?_
    . simp [ha0]
    exact yy85
   | cons t A =>
    exact yy85
  case neg =>
  obtain ⟨r,r1,r2,r3⟩:=zwq (most:=s.config.packet) hB;have hBl:=zy36.2 hB;obtain ⟨n,rfl⟩:∃ n',n=n'+1:=⟨n-1,by omega⟩
  have hN:zfm s.config.packet 0 (n+1) B=zlz s.config.packet 0 B++zfm s.config.packet 0 n (B.drop r):=by rw [zfm,zy0 hB,r1,zy22]
  have hP:zlz s.config.packet 0 B=if (Pck.zdb (B.take r) s.config.packet).2=0 then [⟨0,false,(Pck.zdb (B.take r) s.config.packet).1⟩] else []:=by rw [zlz,r1,zy22]
  have hsz:Pck.zev B:=⟨by omega,fun c hc=>hko c zz121⟩
  have hszr:Pck.zev (B.take r):=hsz.take r;rw [hN,zy28] at i3;cases A with
  | nil =>
   have i1':B=a:=i1.symm;subst i1';(conv=>whnf);refine sT ?_
   repeat refine sG ?_
   (refine cL ?_;refine dL (Pck.znr B s.config.packet hsz hm) ?_)
   refine zaa (c:=(0:Int)<=0/\(0:Int)<=zcb s.config.packet B/\zcb s.config.packet B<=((B.map Chunk.row).length:Int)) ⟨by omega,by omega,by rw [zy2];omega⟩ (zw ?_);refine zdd (zw ?_);refine zpz (a:=[]) (b:=B.take r) (c:=B.drop r) zz5 rfl (show (zcb s.config.packet B-0).toNat=_ by rw [r1];simp;omega) ?_;(conv=>whnf);refine ⟨_,Pck.zgk (B.take r) s.config.packet hszr,rfl,zw ?_⟩;refine sD ?_;by_cases ho:(Pck.zdb (B.take r) s.config.packet).2=0
   case pos =>
    rw [zy1 ho] at hP;refine zac ?_ ?_
    . simpa using ho
    (conv=>whnf);refine zaa (c:=((acc.map zau.row).length+1)*40<=140737488355328) zz6 (zw ?_)
    repeat refine sG ?_
    refine zaa (c:=(0:Int)<=zcb s.config.packet B/\zcb s.config.packet B<=((B.map Chunk.row).length:Int)/\((B.map Chunk.row).length:Int)<=((B.map Chunk.row).length:Int)) ⟨by omega,by rw [zy2];omega,by omega⟩ (zw ?_);obtain ⟨x,B1,hx⟩:∃ x B1,B.take r=x::B1:=by
     exact yy29
    have hxl:B1.length+1=r:=by have:=congrArg List.length hx;simp at this;omega
    refine hQ2 _ _ (zw ?_);exact ⟨⟨((x::B1,B.drop r),n,acc++[⟨0,false,(Pck.zdb (B.take r) s.config.packet).1⟩]),by rw [<- hx,zy32],by simp;omega,by simp;omega,by rw [<- i3,hP];simp⟩,(zcc (zic [(900,some 51)]) zz8),by simp;omega⟩
   case neg =>
    exact yy23
  | cons t A =>
   have hal:(A.length:Int)+1=((t::A).length:Nat):=by simp
   (conv=>whnf);refine sT ?_
   repeat refine sG ?_
   refine zbh (zw ?_);refine zpz (a:=t::A) (b:=B) (c:=[]) zz136 rfl rfl ?_;(conv=>whnf);refine ⟨_,Pck.znr B s.config.packet hsz hm,rfl,zw ?_⟩
   repeat refine sG ?_
   refine zaa (c:=(0:Int)<=zcb s.config.packet B/\((A.length+1:Nat):Int)+zcb s.config.packet B<=((a.map Chunk.row).length:Int)) ⟨by omega,by rw [zy2,hz,zy6];omega⟩ (zw ?_);refine zdd (zw ?_);refine zpz (a:=t::A) (b:=B.take r) (c:=B.drop r) zz136 rfl (show (zcb s.config.packet B).toNat=_ by rw [r1];simp;omega) ?_;(conv=>whnf);refine ⟨_,Pck.zgk (B.take r) s.config.packet hszr,rfl,zw ?_⟩;refine sD ?_;by_cases ho:(Pck.zdb (B.take r) s.config.packet).2=0
   case pos =>
    rw [zy1 ho] at hP;refine zac ?_ ?_
    . simpa using ho
    (conv=>whnf);refine zaa (c:=((acc.map zau.row).length+1)*40<=140737488355328) zz6 (zw ?_)
    repeat refine sG ?_
    refine zaa (c:=(0:Int)<=zcb s.config.packet B/\zcb s.config.packet B<=(B.length:Int)/\((A.length+1:Nat):Int)+(B.length:Int)<=((a.map Chunk.row).length:Int)) ⟨by omega,by omega,by rw [zy2,hz,zy6];omega⟩ (zw ?_);refine hQ2 _ _ (zw ?_);exact ⟨⟨((t::(A++B.take r),B.drop r),n,acc++[⟨0,false,(Pck.zdb (B.take r) s.config.packet).1⟩]),by rw [i1];simp,by simp;omega,by simp;omega,by rw [<- i3,hP];simp⟩,(zcc (zic [(900,some 51)]) zz7),by simp;omega⟩
   case neg =>
    rw [zy0 ho] at hP;refine zab ?_ ?_
    . simpa using ho
    conv=>whnf
    repeat refine sG ?_
    refine zaa (c:=(0:Int)<=zcb s.config.packet B/\zcb s.config.packet B<=(B.length:Int)/\((A.length+1:Nat):Int)+(B.length:Int)<=((a.map Chunk.row).length:Int)) ⟨by omega,by omega,by rw [zy2,hz,zy6];omega⟩ (zw ?_);exact yy103
 case inr.inl =>
  have hdr:zbs s.config.packet 1 ([a,b].drop 1)=zfm s.config.packet 1 b.length b++zbs s.config.packet (1+1) ([a,b].drop (1+1)):=rfl;rw [hdr] at k2;(conv=>whnf);refine ⟨1,rfl,by decide,zw ?_⟩;refine ⟨{x:(List Chunk×List Chunk)×Nat×List zau // b=x.1.1++x.1.2/\x.1.2.length<=x.2.1/\x.2.2.length+x.1.2.length<=(1+1)*2 ^ 29/\x.2.2++(zfm s.config.packet 1 x.2.1 x.1.2++zbs s.config.packet (1+1) ([a,b].drop (1+1)))=T},
   fun | ⟨((A,B),n,acc),_⟩=>hsP [1000,1001,1002,1003,1004,1005,1006,1007,1008,1009] 57 [(0,.ptr 1000 0),(3,.own 900),(4,i64 1),(5,xiu 1009 A B),(12,.own 1007),(13,i64 2),(14,i64 1)] (pR2 s a b [(900,zhh acc)]),fun x=>x.1.1.2.length,⟨(([],b),b.length,acc),rfl,by simp,by dsimp only;omega,k2⟩,?_,?_⟩
  . exact (zdj (zic [(900,some 900)]))
  rintro ⟨⟨⟨A,B⟩,n,acc⟩,i1,i2,i4,i3⟩;dsimp only at i1 i2 i3 i4;refine zbx fun Q2 hQ2=>?_
  have hz:b.length=A.length+B.length:=by rw [i1];simp
  have hko:∀ c∈b,Okc c:=hkb;by_cases hB:B=[]
  case pos =>
   subst hB;rw [zms,zy58] at i3;rw [zy12] at hz;cases A with
   | nil =>
    (conv=>whnf);have ha0:b=[]:=zy15 zz157;refine zab ?_ ?_
    . simp [ha0]
    exact yy86
   | cons t A =>
    exact yy86
  case neg =>
  obtain ⟨r,r1,r2,r3⟩:=zwq (most:=s.config.packet) hB;have hBl:=zy36.2 hB;obtain ⟨n,rfl⟩:∃ n',n=n'+1:=⟨n-1,by omega⟩
  have hN:zfm s.config.packet 1 (n+1) B=zlz s.config.packet 1 B++zfm s.config.packet 1 n (B.drop r):=by rw [zfm,zy0 hB,r1,zy22]
  have hP:zlz s.config.packet 1 B=if (Pck.zdb (B.take r) s.config.packet).2=0 then [⟨1,false,(Pck.zdb (B.take r) s.config.packet).1⟩] else []:=by rw [zlz,r1,zy22]
  have hsz:Pck.zev B:=⟨by omega,fun c hc=>hko c zz121⟩
  have hszr:Pck.zev (B.take r):=hsz.take r;rw [hN,zy28] at i3;cases A with
  | nil =>
   have i1':B=b:=i1.symm;subst i1';(conv=>whnf);refine sT ?_
   repeat refine sG ?_
   (refine cL ?_;refine dL (Pck.znr B s.config.packet hsz hm) ?_)
   refine zaa (c:=(0:Int)<=0/\(0:Int)<=zcb s.config.packet B/\zcb s.config.packet B<=((B.map Chunk.row).length:Int)) ⟨by omega,by omega,by rw [zy2];omega⟩ (zw ?_);refine zdd (zw ?_);refine zpz (a:=[]) (b:=B.take r) (c:=B.drop r) zz5 rfl (show (zcb s.config.packet B-0).toNat=_ by rw [r1];simp;omega) ?_;(conv=>whnf);refine ⟨_,Pck.zgk (B.take r) s.config.packet hszr,rfl,zw ?_⟩;refine sD ?_;by_cases ho:(Pck.zdb (B.take r) s.config.packet).2=0
   case pos =>
    rw [zy1 ho] at hP;refine zac ?_ ?_
    . simpa using ho
    (conv=>whnf);refine zaa (c:=((acc.map zau.row).length+1)*40<=140737488355328) zz6 (zw ?_)
    repeat refine sG ?_
    refine zaa (c:=(0:Int)<=zcb s.config.packet B/\zcb s.config.packet B<=((B.map Chunk.row).length:Int)/\((B.map Chunk.row).length:Int)<=((B.map Chunk.row).length:Int)) ⟨by omega,by rw [zy2];omega,by omega⟩ (zw ?_);obtain ⟨x,B1,hx⟩:∃ x B1,B.take r=x::B1:=by
     exact yy29
    have hxl:B1.length+1=r:=by have:=congrArg List.length hx;simp at this;omega
    refine hQ2 _ _ (zw ?_);exact ⟨⟨((x::B1,B.drop r),n,acc++[⟨1,false,(Pck.zdb (B.take r) s.config.packet).1⟩]),by rw [<- hx,zy32],by simp;omega,by simp;omega,by rw [<- i3,hP];simp⟩,(zcc (zic [(900,some 51)]) zz8),by simp;omega⟩
   case neg =>
    exact yy23
  | cons t A =>
   have hal:(A.length:Int)+1=((t::A).length:Nat):=by simp
   (conv=>whnf);refine sT ?_
   repeat refine sG ?_
   refine zbh (zw ?_);refine zpz (a:=t::A) (b:=B) (c:=[]) zz136 rfl rfl ?_;(conv=>whnf);refine ⟨_,Pck.znr B s.config.packet hsz hm,rfl,zw ?_⟩
   repeat refine sG ?_
   refine zaa (c:=(0:Int)<=zcb s.config.packet B/\((A.length+1:Nat):Int)+zcb s.config.packet B<=((b.map Chunk.row).length:Int)) ⟨by omega,by rw [zy2,hz,zy6];omega⟩ (zw ?_);refine zdd (zw ?_);refine zpz (a:=t::A) (b:=B.take r) (c:=B.drop r) zz136 rfl (show (zcb s.config.packet B).toNat=_ by rw [r1];simp;omega) ?_;(conv=>whnf);refine ⟨_,Pck.zgk (B.take r) s.config.packet hszr,rfl,zw ?_⟩;refine sD ?_;by_cases ho:(Pck.zdb (B.take r) s.config.packet).2=0
   case pos =>
    rw [zy1 ho] at hP;refine zac ?_ ?_
    . simpa using ho
    (conv=>whnf);refine zaa (c:=((acc.map zau.row).length+1)*40<=140737488355328) zz6 (zw ?_)
    repeat refine sG ?_
    refine zaa (c:=(0:Int)<=zcb s.config.packet B/\zcb s.config.packet B<=(B.length:Int)/\((A.length+1:Nat):Int)+(B.length:Int)<=((b.map Chunk.row).length:Int)) ⟨by omega,by omega,by rw [zy2,hz,zy6];omega⟩ (zw ?_);refine hQ2 _ _ (zw ?_);exact ⟨⟨((t::(A++B.take r),B.drop r),n,acc++[⟨1,false,(Pck.zdb (B.take r) s.config.packet).1⟩]),by rw [i1];simp,by simp;omega,by simp;omega,by rw [<- i3,hP];simp⟩,(zcc (zic [(900,some 51)]) zz7),by simp;omega⟩
   case neg =>
    rw [zy0 ho] at hP;refine zab ?_ ?_
    . simpa using ho
    conv=>whnf
    repeat refine sG ?_
    refine zaa (c:=(0:Int)<=zcb s.config.packet B/\zcb s.config.packet B<=(B.length:Int)/\((A.length+1:Nat):Int)+(B.length:Int)<=((b.map Chunk.row).length:Int)) ⟨by omega,by omega,by rw [zy2,hz,zy6];omega⟩ (zw ?_);exact yy103
 case inr.inr =>
  have k2:acc=T:=by rw [<- k2];simp [zbs]
  subst k2;(conv=>whnf);refine hQ _ _ ?_;conv=>whnf
  (exact zci (zic [(0,some 900)]))
end Snd
namespace Snd
open Ser
structure PF (j:Nat) (s:zag):Prop where
 g:ylw s
 some:0<s.paths.length
 part:1<=s.config.part
 part2:s.config.part<2 ^ 30
 msg:∀ m∈s.queue,zup s m
 chunk:∀ x∈s.out,Okc x.chunk
 bytes:Sco.total s.out+j*2 ^ 30<2 ^ 38
 few:s.out.length+s.queue.length<2 ^ 27
theorem PF.nfit {j:Nat} {s:zag} (h:PF j s):xfr s:=⟨h.g,h.some,h.part,h.part2,h.msg⟩
theorem zup.same {s t:zag} {m:zak} (h:zup s m) (h1:t.config=s.config) (h2:t.mids.length=s.mids.length) (h3:t.sched.had.length=s.sched.had.length):zup t m:=by
 obtain ⟨⟨a1,a2,a3,a4,a5⟩,b1,b2,b3,b4⟩:=h;have e:zgu t m=zgu s m:=by unfold zgu;rw [h1]
 exact ⟨⟨a1,a2,by rw [h1];exact a3,by rw [h1];exact a4,fun hm=>by rw [e,h2];exact a5 hm⟩,by rw [h3];exact b1,b2,b3,b4⟩
theorem ymj (id:Int):∀ (q:List zak) (s:zag),(∀ x∈s.out,Okc x.chunk)->∀ x∈(q.foldl (zfb id) s).out,Okc x.chunk
 | [],s,h,x,hx=>h x hx
 | m::q,s,h,x,hx=>by
  refine ymj id q (zfb id s m) (fun y hy=>?_) x hx;unfold zfb at hy;split at hy
  . rcases zy21.1 hy with hy | hy
    . exact h y hy
    . rw [zy23] at hy;subst hy;exact ⟨by simp [zpp],by simp [zpp]⟩
  . exact h y hy
theorem yuh {j:Nat} {s:zag} (h:PF j s) {id:Nat} (hid:id<s.fates.length):PF j (zfc s id):=by
 obtain ⟨r,h1,h2,h3⟩:=zkh s id;have hs:=r.sum;refine ⟨ybf h.g hid,by rw [r.paths];exact h.some,by rw [r.config];exact h.part,by rw [r.config];exact h.part2,fun m hm=>(h.msg m (h2 m hm)).same r.config (by rw [r.mids]) (by rw [r.had]),fun x hx=>?_,by rw [h1];exact h.bytes,by have:=h.few;omega⟩;have hx':x∈((s.queue.foldl (zfb id) {s with fates:=s.fates.set id 3}).out.map (Sco.zgr id)):=hx;obtain ⟨y,hy,rfl⟩:=zy37.1 hx';have:=ymj id s.queue {s with fates:=s.fates.set id 3} h.chunk y hy;have e:(Sco.zgr id y).chunk=y.chunk:=by unfold Sco.zgr;split<;>rfl
 rw [e];exact this
theorem xdt {j:Nat} {s:zag} (h:PF j s) {m:zak} (hm:0<=m.id/\m.id<s.fates.length):PF j (zkx s m):=by
 unfold zkx;split
 . obtain ⟨k,hk⟩:∃ k:Nat,m.id=k:=⟨m.id.toNat,by omega⟩
   rw [hk];exact yuh h zz0
 . exact h
theorem xdv {j:Nat} {s:zag} (h:PF j s) {m:zbo} (hm:0<=m.id/\m.id<s.fates.length):PF j (zhd s m):=by
 unfold zhd;split
 . obtain ⟨k,hk⟩:∃ k:Nat,m.id=k:=⟨m.id.toNat,by omega⟩
   rw [hk];exact yuh h zz0
 . exact h
theorem ymn {j:Nat}:∀ (q:List zak) (s:zag),PF j s->(∀ m∈q,0<=m.id/\m.id<s.fates.length)->PF j (q.foldl zkx s)/\Rest s (q.foldl zkx s)
 | [],s,h,_=>⟨h,Rest.refl s⟩
 | m::q,s,h,hq=>by
  obtain ⟨-,r⟩:=yaz h.g (hq m zz5);obtain ⟨h1,r1⟩:=ymn q (zkx s m) (xdt h (hq m zz5)) fun x hx=>by rw [r.fates];exact hq x zz92
  exact ⟨h1,r.trans r1⟩
theorem ymq {j:Nat}:∀ (q:List zbo) (s:zag),PF j s->(∀ m∈q,0<=m.id/\m.id<s.fates.length)->PF j (q.foldl zhd s)/\Rest s (q.foldl zhd s)
 | [],s,h,_=>⟨h,Rest.refl s⟩
 | m::q,s,h,hq=>by
  obtain ⟨-,r⟩:=yba h.g (hq m zz5);obtain ⟨h1,r1⟩:=ymq q (zhd s m) (xdv h (hq m zz5)) fun x hx=>by rw [r.fates];exact hq x zz92
  exact ⟨h1,r.trans r1⟩
theorem yen {j:Nat} {s:zag} (h:PF j s):PF j (expire s)/\Rest s (expire s):=by
 obtain ⟨h1,r1⟩:=ymn s.queue s h h.g.qid;obtain ⟨h2,r2⟩:=ymq (s.queue.foldl zkx s).out _ h1 h1.g.xid;exact ⟨h2,r1.trans r2⟩
theorem zwk:∀ (l:List zbo) (cum:Int) (sk:List zdx),sk.length<=8->(Sco.zeu cum sk l).2.length<=8
 | [],cum,sk,h=>h
 | x::l,cum,sk,h=>by
  simp only [Sco.zeu];split
  . exact h
  split
  . split
    . exact h
    . exact zwk l _ _ zz0
  . exact zwk l _ _ h
theorem yud (s:zag):Okc (xhz s):=⟨by simp [xhz],by have:=zwk s.out s.cum [] zz5;show (Sco.zdy s.out s.cum).2.length<_;unfold Sco.zdy;omega⟩
theorem PF.paths {j:Nat} {s:zag} (h:PF j s) (ps:List Path) (f:Bool) (hp:ps.length=s.paths.length):PF j {s with paths:=ps,forward:=f}:=by
 obtain ⟨⟨⟨f1,f2,f3,f4,f5,f6,f7⟩,g2,g3,g4⟩,a1,a2,a3,a4,a5,a6,a7⟩:=h;exact ⟨⟨⟨f1,f2,f3,by show ps.length<_;omega,f5,f6,f7⟩,g2,g3,g4⟩,by show 0<ps.length;omega,a2,a3,fun m hm=>(a4 m hm).same rfl rfl rfl,a5,a6,a7⟩
theorem xgp {j:Nat} {s:zag} (h:PF j s) {k:Nat} {w:Path}:PF j (yiw s k w):=h.paths _ _ zz5
theorem xgn {j:Nat} {s:zag} (h:PF j s) {i c:Nat} {x:zbo} {w:Path} (hx:s.out[i]?=some x):PF j (zxy s i c x w):=by
 obtain ⟨⟨⟨f1,f2,⟨b1,b2⟩,f4,f5,f6,f7⟩,g2,g3,g4⟩,a1,a2,a3,a4,a5,a6,a7⟩:=h;have hi:=(zy8.1 hx).1;have hl:(zxy s i c x w).out.length=s.out.length:=by show (s.out.set i _).length=_;simp
 have hp:(zxy s i c x w).paths.length=s.paths.length:=by show (s.paths.set c _).length=_;simp
 have ht:Sco.total (zxy s i c x w).out=Sco.total s.out:=by
  show Sco.total (s.out.set i (zsz x c))=_;have he:s.out[i]=x:=(zy8.1 hx).2;simp only [Sco.total,zy62];rw [show (zsz x c).chunk.data.length=(s.out.map fun s=>s.chunk.data.length)[i]'(by simpa using hi) by simp [zsz,he],List.set_getElem_self]
 have hmem:∀ y∈(zxy s i c x w).out,∃ z∈s.out,y.id=z.id/\y.chunk=z.chunk:=fun y hy=>by
  rcases zy57 (show y∈s.out.set i (zsz x c) from hy) with hy | hy
  . exact ⟨y,hy,rfl,rfl⟩
  . exact ⟨x,zy20 hx,by rw [hy];rfl,by rw [hy];rfl⟩
 refine ⟨⟨⟨f1,f2,⟨by rw [hl];exact b1,by rw [ht];exact b2⟩,by rw [hp];exact f4,f5,f6,f7⟩,by rw [hl];exact g2,g3,fun y hy=>?_⟩,by rw [hp];exact a1,a2,a3,fun m hm=>(a4 m hm).same rfl rfl rfl,fun y hy=>?_,by rw [ht];exact a6,by rw [hl];exact a7⟩
 . obtain ⟨z,hz,e,-⟩:=hmem y hy;rw [e];exact g4 z hz
 . obtain ⟨z,hz,-,e⟩:=hmem y hy;rw [e];exact a5 z hz
def nxS (s:zag) (k c:Nat) (m:zak) (w:Path):zag:={zxy (s2 s k m) s.out.length c (x0 s m) w with queue:=if ovr s m then s.queue.eraseIdx k else s.queue.set k (m2 s m)}
theorem xem {j:Nat} {s:zag} (h:PF (j+1) s) {k c:Nat} {m:zak} {w:Path} (hm:s.queue[k]?=some m) (ho:s.out.length<60):PF j (nxS s k c m w):=by
 have hmf:=h.msg m (zy20 hm);obtain ⟨⟨⟨f1,f2,⟨b1,b2⟩,f4,f5,f6,f7⟩,g2,g3,g4⟩,a1,a2,a3,a4,a5,a6,a7⟩:=h;obtain ⟨n1,n2,n3⟩:=zrq (s:=s) (m:=m) a2 a3 hmf.sent hmf.left hmf.data;have hk:=(zy8.1 hm).1;have hmid:(zdt s m).length=s.mids.length:=by
  unfold zdt setAt;split
  . split
    . rfl
    . simp
  . rfl
 have hhad:(Sch.had s.sched {m with mid:=zdg s m} (many s m) (ovr s m)).had.length=s.sched.had.length:=by
  unfold Sch.had;dsimp only;split<;>simp
 have hout:(nxS s k c m w).out=(s.out++[x0 s m]).set s.out.length (zsz (x0 s m) c):=rfl;have hout2:(nxS s k c m w).out=s.out++[zsz (x0 s m) c]:=by rw [hout,zy152 _ _ (zy24 _),zy95];rfl
 have hq:∀ y∈(nxS s k c m w).queue,y∈s.queue\/(y=m2 s m/\ovr s m=false):=fun y hy=>by
  have hy:y∈(if ovr s m then s.queue.eraseIdx k else s.queue.set k (m2 s m)):=hy;cases ho:ovr s m with
  | true=>rw [ho,zy1 rfl] at hy;exact .inl (zy63 hy)
  | false =>
   rw [ho,zy0 (by decide)] at hy;rcases zy57 hy with hy | hy
   . exact .inl hy
   . exact .inr ⟨hy,rfl⟩
 have hql:(nxS s k c m w).queue.length<=s.queue.length:=by
  show (if ovr s m then s.queue.eraseIdx k else s.queue.set k (m2 s m)).length<=_;split
  . rw [zy73];split<;>omega
  . simp
 have hp:(nxS s k c m w).paths.length=s.paths.length:=by show (s.paths.set c _).length=_;simp
 have hd:(x0 s m).chunk.data.length<2 ^ 30:=by show ((m.message.data.drop _).take _).length<_;simp;omega
 have htot:Sco.total (nxS s k c m w).out=Sco.total s.out+(x0 s m).chunk.data.length:=by rw [hout2,Sco.zhu];simp [Sco.total,zsz]
 have hlen:(nxS s k c m w).out.length=s.out.length+1:=by rw [hout2];simp
 have hm2:ovr s m=false->zup s (m2 s m):=fun ho=>by
  have:m.sent+many s m≠m.message.data.length:=by
   intro e;have:=xct s m;rw [ho,zy30] at this;exact this e
  obtain ⟨⟨c1,c2,c3,c4,c5⟩,d1,d2,d3,d4⟩:=hmf;refine ⟨⟨c1,c2,c3,c4,fun hneg=>?_⟩,d1,by show 0<=m.sent+many s m;omega,by show m.sent+many s m<m.message.data.length;omega,d4⟩;have hmn:m.mid<0:=by
   rcases Int.lt_or_le m.mid 0 with h0 | h0
   . exact h0
   . have:zdg s m=m.mid:=by rw [zdg,zy0 (by omega)]
     have hneg:zdg s m<0:=hneg;omega
  exact c5 hmn
 refine ⟨⟨⟨by omega,by rw [show (nxS s k c m w).sched.had.length=s.sched.had.length from hhad];exact f2,⟨by omega,by omega⟩,by omega,by rw [show (nxS s k c m w).mids.length=s.mids.length from hmid];exact f5,f6,fun y hy=>?_⟩,by omega,fun y hy=>?_,fun y hy=>?_⟩,by omega,a2,a3,fun y hy=>?_,fun y hy=>?_,by omega,by omega⟩
 . rcases hq y hy with hy | ⟨rfl,-⟩
   . exact f7 y hy
   . exact f7 m (zy20 hm)
 . show 0<=y.id/\y.id<s.fates.length
   rcases hq y hy with hy | ⟨rfl,-⟩
   . exact g3 y hy
   . exact g3 m (zy20 hm)
 . show 0<=y.id/\y.id<s.fates.length
   rw [hout2] at hy;rcases zy21.1 hy with hy | hy
   . exact g4 y hy
   . rw [zy23] at hy;subst hy;exact g3 m (zy20 hm)
 . have h0:zup s y:=by
    rcases hq y hy with hy | ⟨rfl,ho⟩
    . exact a4 y hy
    . exact hm2 ho
   exact h0.same rfl hmid hhad
 . rw [hout2] at hy
   rcases zy21.1 hy with hy | hy
   . exact a5 y hy
   . rw [zy23] at hy;subst hy;exact ⟨by simp [zsz,x0],by simp [zsz,x0]⟩
theorem xap {s:zag} {o:List (List Chunk)} {j:Nat} (h:PF (j+1) s) (hc:choose s<o.length):(nx s o=(⟨s,o⟩,false)/\next ⟨s,o⟩=none)\/∃ (k:Nat) (m:zak) (w:Path) (l:List Chunk),s.queue[k]?=some m/\s.out.length<60/\o[choose s]?=some l /\
 nx s o=(⟨nxS s k (choose s) m w,o.set (choose s) (l++[(x0 s m).chunk])⟩,true)/\next ⟨s,o⟩=some ⟨nxS s k (choose s) m w,o.set (choose s) (l++[(x0 s m).chunk])⟩:=by
 obtain ⟨-,hc2⟩:=zdn h.some;obtain ⟨w,hw⟩:∃ w,s.paths[choose s]?=some w:=⟨_,zy3 hc2⟩
 obtain ⟨l,hl⟩:∃ l,o[choose s]?=some l:=⟨_,zy3 hc⟩
 cases hn:next ⟨s,o⟩ with
 | none=>exact .inl ⟨by rw [nx,hn],rfl⟩
 | some q =>
  right
  have hn':=hn;unfold next at hn';split at hn'
  . cases hn'
  rename_i c0;have c0:=not_or.1 c0;have c1:=not_or.1 c0.2;cases hq:s.queue[(zec s).toNat]? with
  | none=>simp only [hq] at hn';cases hn'
  | some m =>
   simp only [hq] at hn';split at hn'
   . cases hn'
   . have hn':=Option.some.inj hn'
     rw [zfx rfl hw hl] at hn';refine ⟨(zec s).toNat,m,w,l,hq,by have h2:=c1.2;dsimp only at h2;omega,hl,?_,?_⟩
     . rw [nx,hn];simp only;rw [<- hn'];rfl
     . rw [<- hn'];rfl
end Snd
namespace Snd
open Ser
structure PO (g:Config) (j n k:Nat) (p:zew):Prop where
 pf:PF j p.s
 paths:p.s.paths.length=n
 outs:p.out.length=n
 config:p.s.config=g
 most:∀ l∈p.out,l.length<=k/\∀ c∈l,Okc c
theorem PO.mono {g:Config} {j n k k':Nat} {p:zew} (h:PO g j n k p) (hk:k<=k'):PO g j n k' p:=⟨h.pf,h.paths,h.outs,h.config,fun l hl=>⟨zy94 (h.most l hl).1 hk,(h.most l hl).2⟩⟩
theorem zwn {o:List (List Chunk)} {k c:Nat} {l:List Chunk} {x:Chunk} (h:∀ l∈o,l.length<=k/\∀ c∈l,Okc c) (hl:o[c]?=some l) (hx:Okc x):∀ m∈o.set c (l++[x]),m.length<=k+1/\∀ c∈m,Okc c:=fun m hm=>by
 rcases zy57 hm with hm | rfl
 . obtain ⟨h1,h2⟩:=h m hm;exact ⟨by omega,h2⟩
 . obtain ⟨h1,h2⟩:=h l (zy20 hl)
   refine ⟨by simp;omega,fun c hc=>?_⟩;rcases zy21.1 hc with hc | hc
   . exact h2 c hc
   . rw [zy23] at hc;subst hc;exact hx
theorem ysx {g:Config} {j n k c:Nat} {p:zew} (h:PO g j n k p) (hc:c<n) (i:Nat):PO g j n (k+1) (zcz c p i):=by
 obtain ⟨s,o⟩:=p;obtain ⟨w,hw⟩:∃ w,s.paths[c]?=some w:=⟨_,zy3 (by have:=h.paths;dsimp only at this;omega)⟩
 obtain ⟨l,hl⟩:∃ l,o[c]?=some l:=⟨_,zy3 (by have:=h.outs;dsimp only at this;omega)⟩
 cases hx:s.out[i]? with
 | none=>simp only [zcz,hx];exact h.mono zz0
 | some x =>
  by_cases d:x.state=3/\w.zba<w.window
  . rw [zmd hx hw hl d]
    exact ⟨xgn h.pf hx,by show (s.paths.set c _).length=_;rw [zy26];exact h.paths,by show (o.set c _).length=_;rw [zy26];exact h.outs,h.config,zwn h.most hl (h.pf.chunk x (zy20 hx))⟩
  . rw [zpi hx hw d];exact h.mono zz0
theorem ydw {g:Config} {j n c:Nat} (hc:c<n):∀ (L:List Nat) {k:Nat} {p:zew},PO g j n k p->PO g j n (k+L.length) (L.foldl (zcz c) p)
 | [],_,_,h=>h
 | i::L,k,p,h=>(ydw hc L (ysx h hc i)).mono zz3
theorem yan {g:Config} {j n k:Nat} {p:zew} (h:PO g j n k p):PO g j n (k+p.s.out.length) (again p):=by
 obtain ⟨-,hc2⟩:=zdn h.pf.some;have:=ydw (show choose p.s<n by rw [<- h.paths];exact hc2) (List.range p.s.out.length) h;rw [List.length_range] at this;exact this
theorem znj {g:Config} {j n k:Nat} {p:zew} (h:PO g j n k p):PO g j n (k+1) (forward p):=by
 obtain ⟨s,o⟩:=p;obtain ⟨-,hc2⟩:=zdn h.pf.some;dsimp only at hc2;obtain ⟨l,hl⟩:∃ l,o[choose s]?=some l:=⟨_,zy3 (by have:=h.outs;have:=h.paths;dsimp only at *;omega)⟩
 obtain ⟨w,hw⟩:∃ w,s.paths[choose s]?=some w:=⟨_,zy3 hc2⟩
 unfold forward;split
 . exact h.mono zz0
 . simp only [setAt,hl,hw]
   exact ⟨xgp h.pf (k:=choose s) (w:=w),by show (s.paths.set _ _).length=_;rw [zy26];exact h.paths,by show (o.set _ _).length=_;rw [zy26];exact h.outs,h.config,zwn h.most hl (yud s)⟩
theorem zpq {j:Nat} {s:zag} (h:PF j s):PO s.config j s.paths.length 0 ⟨expire s,List.replicate s.paths.length []⟩:=by
 obtain ⟨h1,r⟩:=yen h;exact ⟨h1,by rw [show (zew.mk (expire s) _).s=expire s from rfl,r.paths],by simp,r.config,fun l hl=>by rw [zy78 hl];simp⟩
theorem ykp {g:Config} {j n k:Nat} {p:zew} (h:PO g (j+1) n k p):(nx p.s p.out=(p,false)/\next p=none)\/∃ q,nx p.s p.out=(q,true)/\next p=some q/\p.s.out.length<60/\q.s.out.length=p.s.out.length+1/\PO g j n (k+1) q:=by
 obtain ⟨s,o⟩:=p;obtain ⟨-,hc2⟩:=zdn h.pf.some;have hp:=h.paths;have ho:=h.outs;dsimp only at hp ho hc2;rcases xap h.pf (show choose s<o.length by omega) with h1 | ⟨i,m,w,l,h1,h2,h3,h4,h5⟩
 . exact .inl h1
 . refine .inr ⟨_,h4,h5,h2,by simp [nxS,zxy,s2],xem h.pf h1 h2,by show (s.paths.set _ _).length=_;rw [zy26];exact hp,by show (o.set _ _).length=_;rw [zy26];exact ho,h.config,zwn h.most h3 ⟨by simp [x0],by simp [x0]⟩⟩
theorem zrt {p:zew} (h:next p=none) (j:Nat):zfl j p=p:=by cases j<;>simp [zfl,h]
theorem yyq {p:zew} (h:p.out.length=2):p.out=[ygk p.out,yog p.out]:=by
 obtain ⟨s,o⟩:=p
 match o,h with
 | [a,b],_=>rfl
end Snd
namespace Snd
open Ser
theorem yvw {α:Type} {l:List α} (h:l.length=1):∃ a,l=[a]:=by
 match l,h with
 | [a],_=>exact ⟨a,rfl⟩
theorem yyp {α:Type} {l:List α} (h:l.length=2):∃ a b,l=[a,b]:=by
 match l,h with
 | [a,b],_=>exact ⟨a,b,rfl⟩
abbrev xjc (t:zag) (a:List Chunk) (L:List (Nat×zai)):List (Nat×zai):=(2,.live (.cells 32 ylu))::(16,.live (.cells 139 (yyt t (.own 900) (.own 901) (.own 902) (.own 903) (.own 904) (.own 905) (.own 14))))::zzt t 900 901 902 903 904 905 ((14,.live (.cells 145 [.own 906]))::(906,zxt a)::L)
abbrev xjd (t:zag) (a b:List Chunk) (L:List (Nat×zai)):List (Nat×zai):=(2,.live (.cells 32 ylu))::(16,.live (.cells 139 (yyt t (.own 900) (.own 901) (.own 902) (.own 903) (.own 904) (.own 905) (.own 14))))::zzt t 900 901 902 903 904 905 ((14,.live (.cells 145 [.own 906,.own 907]))::(906,zxt a)::(907,zxt b)::L)
theorem zgv {α β:Type} (f:α->β) (A:List α) (p:α) (B:List β):(A++[p]).map f++B=A.map f++f p::B:=by simp
theorem ylf (s:zag) (h:PF 62 s) (hm:inI s.config.packet) (h1p:s.paths.length=1) :
 zan Tryz.prog 39 [s.hv] zad (.tup [xfh (zjp s).1 0 1 2 3 4 5,.own 6]) (lk .free (zzt (zjp s).1 0 1 2 3 4 5 [(6,zhh (zjp s).2)])):=by
 have h0:=h.g.fit;have e1:PO s.config 62 1 0 ⟨expire s,[[]]⟩:=by have:=zpq h;rw [h1p] at this;exact this
 have e2:=znj e1;have e3:=yan e2;have hF:zfl 61 (again (forward ⟨expire s,[[]]⟩))=zmt s:=by rw [zmt,h1p];rfl
 have hfew:=e2.pf.few;rw [show zjp s=(ydp (zmt s).s,zbs s.config.packet 0 (zmt s).out) from rfl];generalize zmt s=F at hF ⊢;dsimp only;refine zaq mixed Tryz.func39 zz4 [] (fun _=>.inl rfl) ?_;(conv=>whnf)
 (refine zat [(0,20),(1,21),(2,22),(3,23),(4,24),(5,25)]  ?_;(conv=>whnf);refine dO (zdu s h0) ?_)
 refine zaa ⟨by omega,rfl,by rw [zy2,h1p];decide⟩ (zw ?_);refine ⟨1,by rw [zy2,h1p],by decide,zw ?_⟩;refine sD ?_
 (refine zaf [] [(1000,16),(1001,20),(1002,21),(1003,22),(1004,23),(1005,24),(1006,25),(1007,14)] [(0,930),(1,931),(2,932),(3,933),(4,934),(5,935)] ?_;(conv=>whnf);refine dG (yhv s h.g) ?_)
 (refine zaf [] [(1000,16),(1001,930),(1002,931),(1003,932),(1004,933),(1005,934),(1006,935),(1007,14)] [(0,940)] ?_;(conv=>whnf);refine dG (ycw (expire s) zz142 e1.paths) ?_)
 generalize forward ⟨expire s,[[]]⟩=P1 at e2 e3 hF hfew ⊢;obtain ⟨t1,o1⟩:=P1;obtain ⟨a1,rfl⟩:=yvw e2.outs
 (refine zaf [] [(1000,16),(1001,930),(1002,931),(1003,932),(1004,933),(1005,934),(1006,935),(1007,14),(1008,940)] [(0,950)] ?_;(conv=>whnf);refine dG (ykz t1 a1 (by dsimp only at hfew;omega) e2.paths (by have:=(e2.most a1 (by simp)).1;omega)) ?_)
 generalize again ⟨t1,[a1]⟩=P2 at e3 hF ⊢;obtain ⟨t2,o2⟩:=P2;obtain ⟨a2,rfl⟩:=yvw e3.outs;dsimp only at hfew;refine ⟨{x:Nat×zag×List Chunk // zfl x.1 ⟨x.2.1,[x.2.2]⟩=F/\PO s.config (x.1+1) 1 (2 ^ 27+99-x.1) ⟨x.2.1,[x.2.2]⟩/\61<=x.1+x.2.1.out.length/\x.1<=61},
  fun | ⟨(j,t,a),_⟩=>hs 106 [(2,.ptr 2 0),(3,zeg),(4,.ptr 16 0)] (xjc t a []),fun x=>x.1.1,⟨(61,t2,a2),hF,e3.mono zz83,by dsimp only;omega,by dsimp only;omega⟩,?_,?_⟩
 . exact (zbe [(2,some 2),(16,some 16),(14,some 14),(900,some 930),(901,some 931),(902,some 932),(903,some 933),(904,some 934),(905,some 935),(906,some 950)])
 rintro ⟨⟨j,t,a⟩,k1,k2,k3,k4⟩;dsimp only at k1 k2 k3 k4;have km:=k2.most a zz5;(conv=>whnf);have hn:=zsg t a k2.pf.nfit k2.paths zz0;rcases ykp k2 with ⟨n1,n2⟩ | ⟨q,n1,n2,n3,n4,n5⟩
 case inr =>
  obtain ⟨u,o⟩:=q;have n6:=n5.outs;obtain ⟨b,rfl⟩:=yvw n6;dsimp only at n1 n3 n4;rw [n1] at hn
  (refine zaf [] [(1000,16),(1001,900),(1002,901),(1003,902),(1004,903),(1005,904),(1006,905),(1007,14),(1008,906)] [(0,930),(1,931),(2,932),(3,933),(4,934),(5,935),(6,950)] ?_;(conv=>whnf);refine dG hn ?_)
  obtain ⟨j,rfl⟩:∃ j',j=j'+1:=⟨j-1,by omega⟩
  rw [zfl,n2] at k1;exact ⟨⟨(j,u,b),k1,n5.mono zz0,by dsimp only;omega,by dsimp only;omega⟩,(zbe [(2,some 2),(16,some 16),(14,some 14),(900,some 930),(901,some 931),(902,some 932),(903,some 933),(904,some 934),(905,some 935),(906,some 950)]),by dsimp only;omega⟩
 case inl =>
  dsimp only at n1;rw [n1] at hn;rw [zrt n2] at k1;subst k1
  (refine zaf [] [(1000,16),(1001,900),(1002,901),(1003,902),(1004,903),(1005,904),(1006,905),(1007,14),(1008,906)] [(0,930),(1,931),(2,932),(3,933),(4,934),(5,935),(6,950)] ?_;(conv=>whnf);refine dG hn ?_)
  (refine zaf [] [(1000,932)] [(0,960)] ?_;(conv=>whnf);refine dG (Sco.zfh t.out t.cum zz143) ?_)
  refine sD ?_;generalize hN:(Sco.zdy t.out t.cum).1=N;have kfew:=k2.pf.few;have kpl:=k2.paths;dsimp only at kfew kpl;refine ⟨{x:List Path×List Path // t.paths=x.1++x.2},fun | ⟨(A,B),_⟩=>hs 106 [(2,.ptr 2 0),(3,zeg),(4,.ptr 16 0),(5,i64 N),(44,i64 t.paths.length),(45,i64 A.length)] (xjc {t with paths:=A.map (zfy t N)++B} a []),fun x=>x.1.2.length,⟨([],t.paths),rfl⟩,?_,?_⟩
  . exact (zbe [(2,some 2),(16,some 16),(14,some 14),(900,some 930),(901,some 931),(902,some 932),(903,some 933),(904,some 934),(905,some 935),(906,some 950)])
  rintro ⟨⟨A,B⟩,h⟩;dsimp only at h;(conv=>whnf);cases B with
  | cons p B =>
   have hz:=zay h;refine sT ?_;refine sOm ?_;refine zaj (a:=A.map (zfy t N)) (b:=B) (s:=p) rfl zz5 (zw ?_);by_cases d1:p.zba>0
   case pos =>
    rw [show decide (p.zba>0)=true from zy9 d1];refine zac rfl (zw ?_)
    repeat refine sG ?_
    refine zaj (a:=A.map (zfy t N)) (b:=B) (s:=p) rfl zz5 (zw ?_);by_cases d2:p.zcs=0
    case pos =>
     rw [show (p.zcs==0)=true from zy13.2 d2];(conv=>whnf);refine zaj (a:=A.map (zfy t N)) (b:=B) (s:=p) rfl zz5 (zw ?_);refine sR ?_;refine zaj (a:=A.map (zfy t N)) (b:=B) (s:=p) rfl zz5 (zw ?_);refine sD ?_;refine sF ?_;exact ⟨⟨(A++[p],B),zae h⟩,(zax ((2,some 2)::((16,some 16)::((14,some 14)::(pJ7 [])))) zz30),by simp⟩
    case neg =>
     rw [show (p.zcs==0)=false from zy4.2 d2];(conv=>whnf);refine zaj (a:=A.map (zfy t N)) (b:=B) (s:=p) rfl zz5 (zw ?_);by_cases d3:p.zba=0
     case pos =>
      rw [show (p.zba==0)=true from zy13.2 d3];refine zac rfl (zw ?_)
      repeat refine sG ?_
      by_cases d4:N=t.cum
      case pos =>
       rw [show (N==t.cum)=true from zy13.2 d4];(conv=>whnf);have d6:zfy t N p={p with zcs:=0}:=by rw [zfy,zy0 (fun h=>d2 h.2),zy1 ⟨d3,d4⟩]
       exact yy106
      case neg =>
       rw [show (N==t.cum)=false from zy4.2 d4];(conv=>whnf);have d6:zfy t N p=p:=by rw [zfy,zy0 (fun h=>d2 h.2),zy0 (fun h=>d4 h.2)]
       exact yy48
     case neg =>
      rw [show (p.zba==0)=false from zy4.2 d3];(conv=>whnf);have d6:zfy t N p=p:=by rw [zfy,zy0 (fun h=>d2 h.2),zy0 (fun h=>d3 h.1)]
      exact yy48
   case neg =>
    rw [show decide (p.zba>0)=false from zy11 d1];(conv=>whnf);refine zaj (a:=A.map (zfy t N)) (b:=B) (s:=p) rfl zz5 (zw ?_);by_cases d3:p.zba=0
    case pos =>
     rw [show (p.zba==0)=true from zy13.2 d3];refine zac rfl (zw ?_)
     repeat refine sG ?_
     by_cases d4:N=t.cum
     case pos =>
      rw [show (N==t.cum)=true from zy13.2 d4];(conv=>whnf);have d6:zfy t N p={p with zcs:=0}:=by rw [zfy,zy0 (fun h=>d1 h.1),zy1 ⟨d3,d4⟩]
      exact yy106
     case neg =>
      rw [show (N==t.cum)=false from zy4.2 d4];(conv=>whnf);have d6:zfy t N p=p:=by rw [zfy,zy0 (fun h=>d1 h.1),zy0 (fun h=>d4 h.2)]
      exact yy48
    case neg =>
     rw [show (p.zba==0)=false from zy4.2 d3];(conv=>whnf);have d6:zfy t N p=p:=by rw [zfy,zy0 (fun h=>d1 h.1),zy0 (fun h=>d3 h.1)]
     exact yy48
  | nil =>
   have hz:=zbk h;rw [zy5] at h;refine sN ?_
   (refine zaf [] [(1000,16),(1001,900),(1002,901),(1003,902),(1004,903),(1005,904),(1006,905),(1007,14),(1008,906)] [(0,970)] ?_;(conv=>whnf);refine dG (ycz {t with paths:=A.map (zfy t N)++[]} a zz112 zz0 km.2) ?_)
   exact yy24
theorem ylg (s:zag) (h:PF 62 s) (hm:inI s.config.packet) (h1p:s.paths.length=2) :
 zan Tryz.prog 39 [s.hv] zad (.tup [xfh (zjp s).1 0 1 2 3 4 5,.own 6]) (lk .free (zzt (zjp s).1 0 1 2 3 4 5 [(6,zhh (zjp s).2)])):=by
 have h0:=h.g.fit;have e1:PO s.config 62 2 0 ⟨expire s,[[],[]]⟩:=by have:=zpq h;rw [h1p] at this;exact this
 have e2:=znj e1;have e3:=yan e2;have hF:zfl 61 (again (forward ⟨expire s,[[],[]]⟩))=zmt s:=by rw [zmt,h1p];rfl
 have hfew:=e2.pf.few;rw [show zjp s=(ydp (zmt s).s,zbs s.config.packet 0 (zmt s).out) from rfl];generalize zmt s=F at hF ⊢;dsimp only;refine zaq mixed Tryz.func39 zz4 [] (fun _=>.inl rfl) ?_;(conv=>whnf)
 (refine zat [(0,20),(1,21),(2,22),(3,23),(4,24),(5,25)]  ?_;(conv=>whnf);refine dO (zdu s h0) ?_)
 refine zaa ⟨by omega,rfl,by rw [zy2,h1p];decide⟩ (zw ?_);refine ⟨2,by rw [zy2,h1p],by decide,zw ?_⟩;refine sD ?_
 (refine zaf [] [(1000,16),(1001,20),(1002,21),(1003,22),(1004,23),(1005,24),(1006,25),(1007,14)] [(0,930),(1,931),(2,932),(3,933),(4,934),(5,935)] ?_;(conv=>whnf);refine dG (yhw s h.g) ?_)
 (refine zaf [] [(1000,16),(1001,930),(1002,931),(1003,932),(1004,933),(1005,934),(1006,935),(1007,14)] [(0,940),(1,941)] ?_;(conv=>whnf);refine dG (ycx (expire s) zz142 e1.paths) ?_)
 generalize forward ⟨expire s,[[],[]]⟩=P1 at e2 e3 hF hfew ⊢;obtain ⟨t1,o1⟩:=P1;obtain ⟨a1,b1,rfl⟩:=yyp e2.outs
 (refine zaf [] [(1000,16),(1001,930),(1002,931),(1003,932),(1004,933),(1005,934),(1006,935),(1007,14),(1008,940),(1009,941)] [(0,950),(1,951)] ?_;(conv=>whnf);refine dG (yla t1 a1 b1 (by dsimp only at hfew;omega) e2.paths (by have:=(e2.most a1 (by simp)).1;have:=(e2.most b1 (by simp)).1;omega)) ?_)
 generalize again ⟨t1,[a1,b1]⟩=P2 at e3 hF ⊢;obtain ⟨t2,o2⟩:=P2;obtain ⟨a2,b2,rfl⟩:=yyp e3.outs;dsimp only at hfew;refine ⟨{x:Nat×zag×List Chunk×List Chunk // zfl x.1 ⟨x.2.1,[x.2.2.1,x.2.2.2]⟩=F/\PO s.config (x.1+1) 2 (2 ^ 27+99-x.1) ⟨x.2.1,[x.2.2.1,x.2.2.2]⟩/\61<=x.1+x.2.1.out.length/\x.1<=61},
  fun | ⟨(j,t,a,b),_⟩=>hs 106 [(2,.ptr 2 0),(3,zeg),(4,.ptr 16 0)] (xjd t a b []),fun x=>x.1.1,⟨(61,t2,a2,b2),hF,e3.mono zz83,by dsimp only;omega,by dsimp only;omega⟩,?_,?_⟩
 . exact (zbe [(2,some 2),(16,some 16),(14,some 14),(900,some 930),(901,some 931),(902,some 932),(903,some 933),(904,some 934),(905,some 935),(906,some 950),(907,some 951)])
 rintro ⟨⟨j,t,a,b⟩,k1,k2,k3,k4⟩;dsimp only at k1 k2 k3 k4;have km:=k2.most a zz5;have kn:=k2.most b zz5;(conv=>whnf);have hn:=yrn t a b k2.pf.nfit k2.paths zz0;rcases ykp k2 with ⟨n1,n2⟩ | ⟨q,n1,n2,n3,n4,n5⟩
 case inr =>
  obtain ⟨u,o⟩:=q;have n6:=n5.outs;obtain ⟨a',b',rfl⟩:=yyp n6;dsimp only at n1 n3 n4;rw [n1] at hn
  (refine zaf [] [(1000,16),(1001,900),(1002,901),(1003,902),(1004,903),(1005,904),(1006,905),(1007,14),(1008,906),(1009,907)] [(0,930),(1,931),(2,932),(3,933),(4,934),(5,935),(6,950),(7,951)] ?_;(conv=>whnf);refine dG hn ?_)
  obtain ⟨j,rfl⟩:∃ j',j=j'+1:=⟨j-1,by omega⟩
  rw [zfl,n2] at k1;exact ⟨⟨(j,u,a',b'),k1,n5.mono zz0,by dsimp only;omega,by dsimp only;omega⟩,(zbe [(2,some 2),(16,some 16),(14,some 14),(900,some 930),(901,some 931),(902,some 932),(903,some 933),(904,some 934),(905,some 935),(906,some 950),(907,some 951)]),by dsimp only;omega⟩
 case inl =>
  dsimp only at n1;rw [n1] at hn;rw [zrt n2] at k1;subst k1
  (refine zaf [] [(1000,16),(1001,900),(1002,901),(1003,902),(1004,903),(1005,904),(1006,905),(1007,14),(1008,906),(1009,907)] [(0,930),(1,931),(2,932),(3,933),(4,934),(5,935),(6,950),(7,951)] ?_;(conv=>whnf);refine dG hn ?_)
  (refine zaf [] [(1000,932)] [(0,960)] ?_;(conv=>whnf);refine dG (Sco.zfh t.out t.cum zz143) ?_)
  refine sD ?_;generalize hN:(Sco.zdy t.out t.cum).1=N;have kfew:=k2.pf.few;have kpl:=k2.paths;dsimp only at kfew kpl;refine ⟨{x:List Path×List Path // t.paths=x.1++x.2},fun | ⟨(A,B),_⟩=>hs 106 [(2,.ptr 2 0),(3,zeg),(4,.ptr 16 0),(5,i64 N),(44,i64 t.paths.length),(45,i64 A.length)] (xjd {t with paths:=A.map (zfy t N)++B} a b []),fun x=>x.1.2.length,⟨([],t.paths),rfl⟩,?_,?_⟩
  . exact (zbe [(2,some 2),(16,some 16),(14,some 14),(900,some 930),(901,some 931),(902,some 932),(903,some 933),(904,some 934),(905,some 935),(906,some 950),(907,some 951)])
  rintro ⟨⟨A,B⟩,h⟩;dsimp only at h;(conv=>whnf);cases B with
  | cons p B =>
   have hz:=zay h;refine sT ?_;refine sOm ?_;refine zaj (a:=A.map (zfy t N)) (b:=B) (s:=p) rfl zz5 (zw ?_);by_cases d1:p.zba>0
   case pos =>
    rw [show decide (p.zba>0)=true from zy9 d1];refine zac rfl (zw ?_)
    repeat refine sG ?_
    refine zaj (a:=A.map (zfy t N)) (b:=B) (s:=p) rfl zz5 (zw ?_);by_cases d2:p.zcs=0
    case pos =>
     rw [show (p.zcs==0)=true from zy13.2 d2];(conv=>whnf);refine zaj (a:=A.map (zfy t N)) (b:=B) (s:=p) rfl zz5 (zw ?_);refine sR ?_;refine zaj (a:=A.map (zfy t N)) (b:=B) (s:=p) rfl zz5 (zw ?_);refine sD ?_;refine sF ?_;exact ⟨⟨(A++[p],B),zae h⟩,(zax ((2,some 2)::((16,some 16)::((14,some 14)::(pJ8 [])))) zz30),by simp⟩
    case neg =>
     rw [show (p.zcs==0)=false from zy4.2 d2];(conv=>whnf);refine zaj (a:=A.map (zfy t N)) (b:=B) (s:=p) rfl zz5 (zw ?_);by_cases d3:p.zba=0
     case pos =>
      rw [show (p.zba==0)=true from zy13.2 d3];refine zac rfl (zw ?_)
      repeat refine sG ?_
      by_cases d4:N=t.cum
      case pos =>
       rw [show (N==t.cum)=true from zy13.2 d4];(conv=>whnf);have d6:zfy t N p={p with zcs:=0}:=by rw [zfy,zy0 (fun h=>d2 h.2),zy1 ⟨d3,d4⟩]
       exact yy107
      case neg =>
       rw [show (N==t.cum)=false from zy4.2 d4];(conv=>whnf);have d6:zfy t N p=p:=by rw [zfy,zy0 (fun h=>d2 h.2),zy0 (fun h=>d4 h.2)]
       exact yy49
     case neg =>
      rw [show (p.zba==0)=false from zy4.2 d3];(conv=>whnf);have d6:zfy t N p=p:=by rw [zfy,zy0 (fun h=>d2 h.2),zy0 (fun h=>d3 h.1)]
      exact yy49
   case neg =>
    rw [show decide (p.zba>0)=false from zy11 d1];(conv=>whnf);refine zaj (a:=A.map (zfy t N)) (b:=B) (s:=p) rfl zz5 (zw ?_);by_cases d3:p.zba=0
    case pos =>
     rw [show (p.zba==0)=true from zy13.2 d3];refine zac rfl (zw ?_)
     repeat refine sG ?_
     by_cases d4:N=t.cum
     case pos =>
      rw [show (N==t.cum)=true from zy13.2 d4];(conv=>whnf);have d6:zfy t N p={p with zcs:=0}:=by rw [zfy,zy0 (fun h=>d1 h.1),zy1 ⟨d3,d4⟩]
      exact yy107
     case neg =>
      rw [show (N==t.cum)=false from zy4.2 d4];(conv=>whnf);have d6:zfy t N p=p:=by rw [zfy,zy0 (fun h=>d1 h.1),zy0 (fun h=>d4 h.2)]
      exact yy49
    case neg =>
     rw [show (p.zba==0)=false from zy4.2 d3];(conv=>whnf);have d6:zfy t N p=p:=by rw [zfy,zy0 (fun h=>d1 h.1),zy0 (fun h=>d3 h.1)]
     exact yy49
  | nil =>
   have hz:=zbk h;rw [zy5] at h;refine sN ?_
   (refine zaf [] [(1000,16),(1001,900),(1002,901),(1003,902),(1004,903),(1005,904),(1006,905),(1007,14),(1008,906),(1009,907)] [(0,970)] ?_;(conv=>whnf);refine dG (yda {t with paths:=A.map (zfy t N)++[]} a b zz112 zz0 zz0 km.2 kn.2) ?_)
   exact yy24
end Snd
namespace Snd
open Ser
theorem zmx (s:zag) (h:PF 62 s) (hm:inI s.config.packet) (hp:s.paths.length=1\/s.paths.length=2) :
 zan Tryz.prog 39 [s.hv] zad (.tup [(zjp s).1.hv,.p (.sl 3 ((zjp s).2.map zau.row))]) zad:=by
 rcases hp with hp | hp
 . refine zcn Tryz.func39 (ylf s h hm hp) ?_
   generalize zjp s=d;(conv=>whnf)
   rfl
 . refine zcn Tryz.func39 (ylg s h hm hp) ?_
   generalize zjp s=d;(conv=>whnf)
   rfl
theorem zxc (s:zag) (hs:Fit s):zan Tryz.prog 33 [s.hv] zad s.hv zad:=by
 refine zcn Tryz.func33 (zdu s hs) ?_;(conv=>whnf)
 rfl
def zjf (c:Config):Int :=
 if c.streams<1\/c.streams>4\/c.paths<1\/c.paths>2\/c.part<1\/c.part>16\/c.packet<40\/c.packet>120\/c.waiting<1\/c.waiting>12\/c.first<0\/c.first>=65536 then 3 else
 if (c).turns<1\/(c).turns>5 then 1 else 0
theorem yyh (c:Config):zan Tryz.prog 29 [c.hv] zad (i64 (zjf c)) zad:=by
 refine zal mixed Tryz.func29 zz4 ?_;(conv=>whnf)
 (repeat' (first | (refine zce ?_;conv=>whnf) | (refine zaa ?_ ?_;(first | kernel_rfl | decide);conv=>whnf) | (refine zaw ?_ ?_;kernel_rfl;conv=>whnf) | (refine zhw.go ?_;conv=>whnf) | (refine zah (fun h=>?_) (fun h=>?_)<;>conv=>whnf)))
 all_goals try simp only [zy43,zy47,zy13,zy4,zy42,zy30] at *
 all_goals first | (simp only [zjf];(repeat' split)<;>first | rfl | omega) | trace_state
end Snd
namespace Snd
open Ser
def zox (s:zag) (m:Message):zag×Int×Int:=if zff s m=0 then (zht s m,(s.fates.length:Int),0) else (noS,0,zff s m)
theorem zjs {s:zag} {m:Message} {e:Int} (h:zff s m=e) (he:e≠0):zox s m=(noS,0,e):=by rw [zox,h,zy0 he]
theorem zqk {s:zag} {m:Message} (h:zff s m=0):zox s m=(zht s m,(s.fates.length:Int),0):=by rw [zox,zy1 h]
theorem ysg (s:zag) (m:Message) (hs:Fit s) (hd:m.data.length<2 ^ 38) :
 zan Tryz.prog 31 [s.hv,m.hv] zad (.tup [xfh (zox s m).1 0 1 2 3 4 5,i64 (zox s m).2.1,i64 (zox s m).2.2]) (lk .free (zzt (zox s m).1 0 1 2 3 4 5 [])):=by
 have hs':=hs;obtain ⟨h1,h2,h3,h4,h5,h6,h7⟩:=hs;refine zaq mixed Tryz.func31 zz4 [] (fun _=>.inl rfl) ?_;(conv=>whnf)
 (repeat' (first | (refine zce ?_;conv=>whnf) | (refine zaa ?_ ?_;(first | kernel_rfl | decide);conv=>whnf) | (refine zaw ?_ ?_;kernel_rfl;conv=>whnf) | (refine zhw.go ?_;conv=>whnf) | (refine zah (fun h=>?_) (fun h=>?_)<;>conv=>whnf)))
 all_goals try simp only [zy43,zy47,zy13,zy4,zy42,zy30,zy2] at *
 all_goals first
  | (rw [zjs (e:=3) (by simp only [zff];(repeat' split)<;>first | rfl | omega) (by decide)];exact zap [(0,none),(1,none),(2,none),(3,none),(4,none),(5,none)] rfl rfl trivial rfl rfl ⟨⟨rfl,.inr ⟨rfl,rfl⟩⟩,⟨rfl,.inr ⟨rfl,rfl⟩⟩,⟨rfl,.inr ⟨rfl,rfl⟩⟩,⟨rfl,.inr ⟨rfl,rfl⟩⟩,⟨rfl,.inr ⟨rfl,rfl⟩⟩,⟨rfl,.inr ⟨rfl,rfl⟩⟩,trivial⟩)
  | (rw [zjs (e:=4) (by simp only [zff];(repeat' split)<;>first | rfl | omega) (by decide)];exact zap [(0,none),(1,none),(2,none),(3,none),(4,none),(5,none)] rfl rfl trivial rfl rfl ⟨⟨rfl,.inr ⟨rfl,rfl⟩⟩,⟨rfl,.inr ⟨rfl,rfl⟩⟩,⟨rfl,.inr ⟨rfl,rfl⟩⟩,⟨rfl,.inr ⟨rfl,rfl⟩⟩,⟨rfl,.inr ⟨rfl,rfl⟩⟩,⟨rfl,.inr ⟨rfl,rfl⟩⟩,trivial⟩)
  | (rw [zjs (e:=7) (by simp only [zff];(repeat' split)<;>first | rfl | omega) (by decide)];exact zap [(0,none),(1,none),(2,none),(3,none),(4,none),(5,none)] rfl rfl trivial rfl rfl ⟨⟨rfl,.inr ⟨rfl,rfl⟩⟩,⟨rfl,.inr ⟨rfl,rfl⟩⟩,⟨rfl,.inr ⟨rfl,rfl⟩⟩,⟨rfl,.inr ⟨rfl,rfl⟩⟩,⟨rfl,.inr ⟨rfl,rfl⟩⟩,⟨rfl,.inr ⟨rfl,rfl⟩⟩,trivial⟩)
  | rw [zqk (by simp only [zff];(repeat' split)<;>first | rfl | omega)]
 (refine zat [(0,20),(1,21),(2,22),(3,23),(4,24),(5,25)]  ?_;(conv=>whnf);refine dO (zdu s hs') ?_)
 (refine zat [(0,26)]  ?_;(conv=>whnf);refine dO (Cl.zdc m.data zz0) ?_)
 refine zaa (c:=((s.queue.map zak.row).length+1)*96<=140737488355328) zz3 (zw ?_);refine zaa (c:=((s.fates.map fun n=>[pi n]).length+1)*8<=140737488355328) zz3 (zw ?_);refine zap [(0,some 80),(1,some 21),(2,some 22),(3,some 23),(4,some 24),(5,some 85)] rfl rfl trivial rfl (by rw [show (s.fates.length:Int)=((s.fates.map fun n=>[pi n]).length:Nat) by rw [zy2]];rfl) ⟨⟨rfl,.inl ⟨80,rfl,?_⟩⟩,⟨rfl,.inl ⟨21,rfl,rfl⟩⟩,⟨rfl,.inl ⟨22,rfl,rfl⟩⟩,⟨rfl,.inl ⟨23,rfl,rfl⟩⟩,⟨rfl,.inl ⟨24,rfl,rfl⟩⟩,⟨rfl,.inl ⟨85,rfl,?_⟩⟩,trivial⟩
 . exact zbc (f:=zak.row) rfl (by rw [zy2];rfl)
 . exact zbc (f:=fun n:Int=>[pi n]) rfl rfl
theorem yxz (s:zag) (m:Message) (hs:Fit s) (hd:m.data.length<2 ^ 38) :
 zan Tryz.prog 31 [s.hv,m.hv] zad (.tup [(zox s m).1.hv,i64 (zox s m).2.1,i64 (zox s m).2.2]) zad:=by
 refine zcn Tryz.func31 (ysg s m hs hd) ?_;generalize zox s m=d;(conv=>whnf)
 rfl
end Snd
namespace Snd
open Ser
theorem zzc {l:List zbo} (i:Int) (h:Sco.zev l):Sco.zev (l.map (Sco.late i)):=⟨by simpa using h.len,by
 have:Sco.total (l.map (Sco.late i))=Sco.total l:=by
  simp only [Sco.total,zy113];congr 1;apply zy93;intro x _;simp only [Function.comp,Sco.late];split<;>rfl
 rw [this];exact h.bytes⟩
def zrp (part:Int) (s:zag) (i:Nat) (p:Path):zag:={s with out:=s.out.map (Sco.late i),paths:=s.paths.set i (Paths.late p part)}
theorem znl {part:Int} {s:zag} {i:Nat} {p:Path} (hp:s.paths[i]?=some p) (h:p.zcs=0\/s.clock<p.zcs):zlc part s i=s:=by
 simp only [zlc,hp];rw [zy1 h]
theorem ynv {part:Int} {s:zag} {i:Nat} {p:Path} (hp:s.paths[i]?=some p) (h:¬ (p.zcs=0\/s.clock<p.zcs)):zlc part s i=if (Sco.zdy (zrp part s i p).out s.cum).1>s.cum then {zrp part s i p with forward:=true} else zrp part s i p:=by
 simp only [zlc,hp];rw [zy0 h];rfl
abbrev tkF (s t:zag):List (Nat×zai):=(1,.live (.cells 32 (ycq s (Sch.qs s.queue) (ints s.sched.had) (Sco.zdz s.out) (zpe s.paths) (ints s.mids) (ints s.fates))))::(2,.live (.cells 32 ylu))::(3,.live (.cells 32 (ycq t (.own 900) (.own 901) (.own 902) (.own 903) (.own 904) (.own 905))))::zzt t 900 901 902 903 904 905 []
theorem ysk (s:zag) (hs:Fit s):zan Tryz.prog 36 [s.hv] zad (xfh (tick s) 0 1 2 3 4 5) (lk .free (zzt (tick s) 0 1 2 3 4 5 [])):=by
 have hs':=hs;obtain ⟨h1,h2,h3,h4,h5,h6,h7⟩:=hs;have hT:(List.range s.paths.length).foldl (zlc s.config.part) {s with clock:=W (s.clock+1)}=tick s:=rfl;generalize tick s=T at hT ⊢;refine zaq mixed Tryz.func36 zz4 [] (fun _=>.inl rfl) ?_;(conv=>whnf)
 (refine zat [(0,20),(1,21),(2,22),(3,23),(4,24),(5,25)]  ?_;(conv=>whnf);refine dO (zdu s hs') ?_)
 refine sR ?_;refine ⟨{x:Nat×zag // x.1<=s.paths.length/\(List.range x.1).foldl (zlc s.config.part) {s with clock:=W (s.clock+1)}=x.2/\Sco.zev x.2.out/\x.2.paths.length=s.paths.length},
  fun | ⟨(i,t),_⟩=>hs 61 [(1,.ptr 1 0),(2,.ptr 2 0),(3,.ptr 3 0),(15,.own 903),(16,i64 s.paths.length),(17,i64 i)] (tkF s t),fun x=>s.paths.length-x.1.1,⟨(0,{s with clock:=W (s.clock+1)}),by dsimp only;omega,rfl,h3,rfl⟩,?_,?_⟩
 . exact (zbe [(1,some 1),(2,some 2),(3,some 3),(900,some 20),(901,some 21),(902,some 22),(903,some 23),(904,some 24),(905,some 25)])
 rintro ⟨⟨i,t⟩,k1,k2,k3,k4⟩;dsimp only at k1 k2 k3 k4;(conv=>whnf);by_cases hi:i<s.paths.length
 case neg =>
  have hin:i=s.paths.length:=by omega
  subst hin;refine sN ?_;rw [hT] at k2;subst k2;exact zap [(0,some 900),(1,some 901),(2,some 902),(3,some 903),(4,some 904),(5,some 905)] rfl rfl trivial rfl rfl ⟨⟨rfl,.inl ⟨900,rfl,rfl⟩⟩,⟨rfl,.inl ⟨901,rfl,rfl⟩⟩,⟨rfl,.inl ⟨902,rfl,rfl⟩⟩,⟨rfl,.inl ⟨903,rfl,rfl⟩⟩,⟨rfl,.inl ⟨904,rfl,rfl⟩⟩,⟨rfl,.inl ⟨905,rfl,rfl⟩⟩,trivial⟩
 case pos =>
  obtain ⟨p,hp⟩:∃ p,t.paths[i]?=some p:=⟨_,zy3 zz0⟩
  have hst:=zim (zlc s.config.part) {s with clock:=W (s.clock+1)} i;rw [k2] at hst;refine sT ?_;refine sOm ?_;refine zam hp rfl (zw ?_);by_cases c1:p.zcs=0
  case pos =>
   rw [show (p.zcs==0)=true from zy13.2 c1];(conv=>whnf);refine sF ?_;exact ⟨⟨(i+1,t),by dsimp only;omega,by rw [hst,znl hp (.inl c1)],k3,k4⟩,(zax ((1,some 1)::(2,some 2)::(3,some 3)::(pJ6 [])) zz2),by dsimp only;omega⟩
  case neg =>
   rw [show (p.zcs==0)=false from zy4.2 c1];refine zab rfl (zw ?_)
   repeat refine sG ?_
   by_cases c2:t.clock<p.zcs
   case pos =>
    rw [show decide (t.clock<p.zcs)=true from zy9 c2];(conv=>whnf);refine sF ?_;exact ⟨⟨(i+1,t),by dsimp only;omega,by rw [hst,znl hp (.inr c2)],k3,k4⟩,(zax ((1,some 1)::(2,some 2)::(3,some 3)::(pJ6 [])) zz2),by dsimp only;omega⟩
   case neg =>
    rw [show decide (t.clock<p.zcs)=false from zy11 c2];(conv=>whnf);have hgo:=ynv (part:=s.config.part) hp (fun h=>h.elim c1 c2)
    (refine zat [(0,35)]  ?_;(conv=>whnf);refine dO (Sco.zxa t.out i k3) ?_)
    (refine cL ?_;refine dL (Paths.zxa p s.config.part) ?_)
    refine zaa ⟨by omega,by rw [zy2];omega⟩ (zw ?_);refine zam hp rfl (zw ?_);refine sD ?_
    (refine zaf [] [(1000,35)] [(0,51)] ?_;(conv=>whnf);refine dG (Sco.zfh (t.out.map (Sco.late i)) t.cum (by rw [zy2];exact k3.len)) ?_)
    have hsz:=zzc i k3;by_cases c3:(Sco.zdy (t.out.map (Sco.late i)) t.cum).1>t.cum
    case pos =>
     rw [zy1 (show (Sco.zdy (zrp s.config.part t i p).out t.cum).1>t.cum from c3)] at hgo;refine zac ?_ ?_
     . simpa using c3
     (conv=>whnf);refine sF ?_;exact ⟨⟨(i+1,{zrp s.config.part t i p with forward:=true}),by dsimp only;omega,by rw [hst,hgo],hsz,by show (t.paths.set i _).length=_;rw [zy26];exact k4⟩,(zax [(1,some 1),(2,some 2),(3,some 3),(900,some 900),(901,some 901),(902,some 35),(903,some 903),(904,some 904),(905,some 905)] zz57),by dsimp only;omega⟩
    case neg =>
     rw [zy0 (show ¬ (Sco.zdy (zrp s.config.part t i p).out t.cum).1>t.cum from c3)] at hgo;refine zab ?_ ?_
     . simpa using c3
     (conv=>whnf);refine sF ?_;exact ⟨⟨(i+1,zrp s.config.part t i p),by dsimp only;omega,by rw [hst,hgo],hsz,by show (t.paths.set i _).length=_;rw [zy26];exact k4⟩,(zax [(1,some 1),(2,some 2),(3,some 3),(900,some 900),(901,some 901),(902,some 35),(903,some 903),(904,some 904),(905,some 905)] zz57),by dsimp only;omega⟩
theorem yye (s:zag) (hs:Fit s):zan Tryz.prog 36 [s.hv] zad (tick s).hv zad:=by
 refine zcn Tryz.func36 (ysk s hs) ?_;generalize tick s=d;(conv=>whnf)
 rfl
end Snd
namespace Snd
open Ser
def yix (c:Config):zag×Int:=if zjf c=0 then (yby c,0) else (noS,zjf c)
theorem yxo (n:Int) (hb:n<2 ^ 40):zan Tryz.prog 66 [i64 n] zad (.agg [i64 (Sch.new n).last,i64 (Sch.new n).hand,.own 0]) (lk .free [(0,zxu (Sch.new n).had)]):=by
 refine zaq mixed Tryz.func66 zz4 [] (fun _=>.inl rfl) ?_;(conv=>whnf);refine zce (zw ?_);refine zaa (c:=0<=(if 0>n then 0 else n)/\(if 0>n then 0 else n)=(if 0>n then 0 else n)/\(if 0>n then 0 else n)*8<=140737488355328) zz0 ?_;(conv=>whnf);refine zap [(0,some 7)] rfl rfl trivial rfl rfl ⟨⟨rfl,.inl ⟨7,rfl,?_⟩⟩,trivial⟩;have e:(if 0>n then 0 else n)=max n 0:=by omega
 refine zar ?_;rw [show (Sch.new n).had=List.replicate (max n 0).toNat 0 from rfl,zy74,<- e];rfl
theorem yxp (c:Config):zan Tryz.prog 26 [c.hv] zad (.tup [xfh (yix c).1 0 1 2 3 4 5,i64 (yix c).2]) (lk .free (zzt (yix c).1 0 1 2 3 4 5 [])):=by
 refine zaq mixed Tryz.func26 zz4 [] (fun _=>.inl rfl) ?_;(conv=>whnf)
 (refine cP ?_;refine dL (yyh c) ?_)
 by_cases c0:zjf c=0
 case neg =>
  rw [yix,zy0 c0];refine zac ?_ ?_
  . simpa using c0
  (conv=>whnf);refine zap [(0,none),(1,none),(2,none),(3,none),(4,none),(5,none)] rfl rfl trivial rfl rfl ⟨⟨rfl,.inr ⟨rfl,rfl⟩⟩,⟨rfl,.inr ⟨rfl,rfl⟩⟩,⟨rfl,.inr ⟨rfl,rfl⟩⟩,⟨rfl,.inr ⟨rfl,rfl⟩⟩,⟨rfl,.inr ⟨rfl,rfl⟩⟩,⟨rfl,.inr ⟨rfl,rfl⟩⟩,trivial⟩
 case pos =>
  rw [yix,zy1 c0];refine zab ?_ ?_
  . simpa using c0
  conv=>whnf
  repeat refine sG ?_
  have hb:1<=c.streams/\c.streams<=4/\1<=c.paths/\c.paths<=2/\0<=c.first/\c.first<65536:=by
   unfold zjf at c0;split at c0
   . cases c0
   . omega
  obtain ⟨b1,b2,b3,b4,b5,b6⟩:=hb
  (refine zat [(0,15)]  ?_;(conv=>whnf);refine dO (yxo c.streams zz0) ?_)
  refine zao (z:=c.first-1) (zbt zz0 zz0) (zw ?_);refine zao (z:=2*c.streams) (zbt zz0 zz0) (zw ?_);refine zaa (c:=0<=2*c.streams/\2*c.streams=2*c.streams/\2*c.streams*(8:Nat)<=140737488355328) ⟨by omega,rfl,by omega⟩ (zw ?_);refine zao (z:=c.first-1) (zbt zz0 zz0) (zw ?_);refine sD ?_;have hnn:(2*c.streams).toNat=(2*c.streams).toNat:=rfl;refine ⟨{i:Nat // (i:Int)<=c.paths},fun | ⟨i,_⟩=>hs 43 [(1,.ptr 1 0),(2,.ptr 2 0),(3,i64 0),(5,.ptr 5 0),(30,i64 c.paths),(31,i64 i)] [(1,.live (.cells 24 [i64 c.streams,i64 c.part,i64 c.packet,i64 c.paths,i64 (c).turns,i64 c.waiting,i64 c.first])),(2,.live (.cells 32 ylu)),(5,.live (.cells 32 (ycq (yby c) zeg (.own 901) zeg (.own 900) (.own 902) zeg))),(900,yyv (List.replicate i (Paths.new c.part))),(901,zxu (Sch.new c.streams).had),(902,zxu (List.replicate (2*c.streams).toNat 0))],fun i=>c.paths.toNat-i.1,⟨0,by omega⟩,?_,?_⟩
  . exact (zax [(1,some 1),(2,some 2),(5,some 5),(900,none),(901,some 15),(902,some 24)] (by repeat' (first | exact z0 | refine z1 ?_ | refine ⟨?_,?_⟩ | ((exact zar (by rw [zy74];rfl))) | exact z2)))
  rintro ⟨i,k1⟩;(conv=>whnf);by_cases hi:(i:Int)<c.paths
  case pos =>
   refine sT ?_
   (refine cL ?_;refine dL (Paths.zqr c.part) ?_)
   refine zaa (c:=(((List.replicate i (Paths.new c.part)).map Path.row).length+1)*56<=140737488355328) zz3 (zw ?_);refine sD ?_;refine sF ?_;exact ⟨⟨i+1,by omega⟩,(zax [(1,some 1),(2,some 2),(5,some 5),(900,some 39),(901,some 901),(902,some 902)] zz65),by dsimp only;omega⟩
  case neg =>
   refine sN ?_;have hin:c.paths.toNat=i:=by omega
   refine zap [(0,none),(1,some 901),(2,none),(3,some 900),(4,some 902),(5,none)] rfl rfl trivial rfl rfl ⟨⟨rfl,.inr ⟨rfl,rfl⟩⟩,⟨rfl,.inl ⟨901,rfl,rfl⟩⟩,⟨rfl,.inr ⟨rfl,rfl⟩⟩,⟨rfl,.inl ⟨900,rfl,?_⟩⟩,⟨rfl,.inl ⟨902,rfl,rfl⟩⟩,⟨rfl,.inr ⟨rfl,rfl⟩⟩,trivial⟩;exact zar (by rw [yby,hin])
theorem zqr (c:Config):zan Tryz.prog 26 [c.hv] zad (.tup [(yix c).1.hv,i64 (yix c).2]) zad:=by
 refine zcn Tryz.func26 (yxp c) ?_;generalize yix c=d;(conv=>whnf)
 rfl
end Snd
namespace Snd
open Ser
theorem zxv {g:FuncId} {c1:List PV} {p:zak->Bool} (hg:∀ m:zak,zan Tryz.prog g [m.hv,.rp c1] zad (zbj (p m)) zad) (q:List zak) (hb:q.length<2 ^ 62) :
 zan Tryz.prog 158 [.p (.sl 10 (q.map zak.row)),.clo g [.rp c1]] zad (i64 (zch p 0 q)) zad:=by
 refine zal mixed Tryz.func158 zz4 ?_;(conv=>whnf);refine ⟨{k:Nat // k<=q.length/\zch p k (q.drop k)=zch p 0 q},fun | ⟨k,_⟩=>hs 19 [(0,.p (.sl 10 (q.map zak.row))),(1,.clo g [.rp c1]),(7,i64 (q.map zak.row).length),(8,i64 k)] [],fun k=>q.length-k.1,⟨0,by simp⟩,?_,?_⟩
 . exact (zbe [])
 . rintro ⟨k,hk,hi⟩
   exact yy5
theorem ypy {g:FuncId} {c1:List PV} {p:zak->Bool} (hg:∀ m:zak,zan Tryz.prog g [m.hv,.rp c1] zad (zbj (p m)) zad) (q:List zak) (hb:q.length<2 ^ 62) :
 zan Tryz.prog 124 [.p (.sl 10 (q.map zak.row)),.clo g [.rp c1]] zad (zbj (q.any p)) zad:=by
 refine zal mixed Tryz.func124 zz4 ?_;(conv=>whnf)
 (refine cL ?_;refine dL (zxv hg q hb) ?_)
 rw [ybq q 0]
theorem yee {g:FuncId} {c1:List PV} {p:zbo->Bool} (hg:∀ m:zbo,zan Tryz.prog g [m.hv,.rp c1] zad (zbj (p m)) zad) (q:List zbo) (hb:q.length<2 ^ 62) :
 zan Tryz.prog 159 [.p (.sl 20 (q.map zbo.row)),.clo g [.rp c1]] zad (i64 (zch p 0 q)) zad:=by
 refine zal mixed Tryz.func159 zz4 ?_;(conv=>whnf);refine ⟨{k:Nat // k<=q.length/\zch p k (q.drop k)=zch p 0 q},fun | ⟨k,_⟩=>hs 19 [(0,.p (.sl 20 (q.map zbo.row))),(1,.clo g [.rp c1]),(7,i64 (q.map zbo.row).length),(8,i64 k)] [],fun k=>q.length-k.1,⟨0,by simp⟩,?_,?_⟩
 . exact (zbe [])
 . rintro ⟨k,hk,hi⟩
   exact yy5
theorem yyz {g:FuncId} {c1:List PV} {p:zbo->Bool} (hg:∀ m:zbo,zan Tryz.prog g [m.hv,.rp c1] zad (zbj (p m)) zad) (q:List zbo) (hb:q.length<2 ^ 62) :
 zan Tryz.prog 126 [.p (.sl 20 (q.map zbo.row)),.clo g [.rp c1]] zad (zbj (q.any p)) zad:=by
 refine zal mixed Tryz.func126 zz4 ?_;(conv=>whnf)
 (refine cL ?_;refine dL (yee hg q hb) ?_)
 rw [ybq q 0]
theorem yya (id:Int) (m:zak):zan Tryz.prog 125 [m.hv,.rp [pi id]] zad (zbj (decide (m.id=id))) zad:=by
 refine zal mixed Tryz.func125 zz4 ?_;(conv=>whnf)
 try rfl
theorem yyb (id:Int) (x:zbo):zan Tryz.prog 127 [x.hv,.rp [pi id]] zad (zbj (decide (x.id=id)&&decide (x.state≠2))) zad:=by
 refine zal mixed Tryz.func127 zz4 ?_;(conv=>whnf)
 (repeat' (first | (refine zce ?_;conv=>whnf) | (refine zaa ?_ ?_;(first | kernel_rfl | decide);conv=>whnf) | (refine zaw ?_ ?_;kernel_rfl;conv=>whnf) | (refine zhw.go ?_;conv=>whnf) | (refine zah (fun h=>?_) (fun h=>?_)<;>conv=>whnf)))
 all_goals try simp only [zy43,zy47,zy13,zy4,zy42,zy30] at *
 . show zbj _=zbj _
   refine congrArg zbj ?_;rw [zy110];simp [*]
 . show zbj _=zbj _
   refine congrArg zbj ?_;rw [zy110];simp [*]
theorem ybs {α β:Type} (f:Nat->α->β) (A:List α) (p:α) (B:List β):(A++[p]).mapIdx f++B=A.mapIdx f++f A.length p::B:=by
 rw [zy102];simp
theorem zfi (s:zag)  (hs:Fit s):zan Tryz.prog 82 [.ptr 1000 0] (lk .free (pH0 s )) (.tup []) (lk .free (pD0 (settle s) )):=by
 obtain ⟨h1,h2,h3,h4,h5,h6,h7⟩:=hs;refine zaq mixed Tryz.func82 zz4 [1000,1001,1002,1003,1004,1005,1006] zbq ?_;(conv=>whnf);refine ⟨{x:List Int×List Int // s.fates=x.1++x.2},fun | ⟨(A,B),_⟩=>hsP [1000,1001,1002,1003,1004,1005,1006] 41 [(0,.ptr 1000 0),(7,.own 1006),(8,i64 s.fates.length),(9,i64 A.length)] (pH0 {s with fates:=A.mapIdx (settled s)++B} ),fun x=>x.1.2.length,⟨([],s.fates),rfl⟩,?_,?_⟩
 . exact (zcc (pK7 []) zz2)
 rintro ⟨⟨A,B⟩,h⟩;dsimp only at h;(conv=>whnf);cases B with
 | cons f B =>
  have hz:=zay h;refine sT ?_;refine sOm ?_;refine zaj (f:=fun n:Int=>[pi n]) (a:=A.mapIdx (settled s)) (b:=B) (s:=f) rfl zz5 (zw ?_);by_cases c1:f=1
  case neg =>
   rw [show (f==1)=false from zy4.2 c1];(conv=>whnf);refine sF ?_;exact ⟨⟨(A++[f],B),zae h⟩,(zcc (pK7 []) (by repeat' (first | exact z0 | refine z1 ?_ | refine ⟨?_,?_⟩ | ((exact zar (by rw [ybs,settled,zy0 (fun h=>c1 h.1)]))) | exact z2))),by simp⟩
  case pos =>
   rw [show (f==1)=true from zy13.2 c1];refine zac rfl (zw ?_)
   (refine cL ?_;refine dL (ypy (fun m=>yya (A.length:Int) m) s.queue zz0) ?_)
   cases c2:(s.queue.any fun m=>decide (m.id=(A.length:Int))) with
   | true =>
    conv=>whnf
    try (refine zab rfl ?_;conv=>whnf)
    (conv=>whnf);refine sF ?_;exact ⟨⟨(A++[f],B),zae h⟩,(zcc (pK7 []) (by repeat' (first | exact z0 | refine z1 ?_ | refine ⟨?_,?_⟩ | ((exact zar (by rw [ybs,settled,zy0 (fun h=>absurd (c2.symm.trans h.2.1) (by decide))]))) | exact z2))),by simp⟩
   | false =>
    conv=>whnf
    try (refine zac rfl ?_;conv=>whnf)
    repeat refine sG ?_
    (refine cL ?_;refine dL (yyz (fun x=>yyb (A.length:Int) x) s.out (by have:=h3.len;omega)) ?_)
    cases c3:(s.out.any fun x=>decide (x.id=(A.length:Int))&&decide (x.state≠2)) with
    | true =>
     (conv=>whnf);refine sF ?_;exact ⟨⟨(A++[f],B),zae h⟩,(zcc (pK7 []) (by repeat' (first | exact z0 | refine z1 ?_ | refine ⟨?_,?_⟩ | ((exact zar (by rw [ybs,settled,zy0 (fun h=>absurd (c3.symm.trans h.2.2) (by decide))]))) | exact z2))),by simp⟩
    | false =>
     (conv=>whnf);refine sOm ?_;refine zaj (f:=fun n:Int=>[pi n]) (a:=A.mapIdx (settled s)) (b:=B) (s:=f) rfl zz5 (zw ?_);refine sD ?_;refine sF ?_;exact ⟨⟨(A++[f],B),zae h⟩,(zcc (pK7 []) (by repeat' (first | exact z0 | refine z1 ?_ | refine ⟨?_,?_⟩ | ((rw [ybs,settled,zy1 ⟨c1,c2,c3⟩];refine Eq.symm (zei (f:=fun n:Int=>[pi n]) (a:=A.mapIdx (settled s)) (b:=B) ?_ ?_);all_goals first | rfl | (simp;done))) | exact z2))),by simp⟩
 | nil =>
  have hz:=zbk h;rw [zy5] at h;refine sN ?_
  (exact zcx (pK7 [(0,some 1001),(1,some 1002),(2,some 1003),(3,some 1004),(4,some 1005),(5,some 1006)]) (by repeat' (first | exact z0 | refine z1 ?_ | refine ⟨?_,?_⟩ | ((exact zar (by rw [settle,h,zy5]))) | exact z2)))
end Snd
namespace Sco
open Ser
theorem yse (l:List zbo) (cum:Int) (c:Chunk) (paths:Int) (hl:zev l) (hr:yiz l cum paths) (hsp:c.zas.length<2 ^ 60) :
 zan Tryz.prog 75 [zdz l,i64 cum,c.hv,i64 paths] zad (.tup [.own 0,i64 (zin l cum c paths).2.1,.own 1,.own 2]) (lk .free [(0,zja (zin l cum c paths).1),(1,ybr (zin l cum c paths).2.2.1),(2,ybr (zin l cum c paths).2.2.2)]):=by
 have hl1:=hl.len;have hp0:=hr.p0;have hp1:=hr.p1;have hc0:=hr.c0;have hc1:=hr.c1;refine zaq mixed Tryz.func75 zz4 [] (fun _=>.inl rfl) ?_;have hn:=ziy (a:=cum) (t:=c.tag) zz0 zz0;rw [zin];generalize hN:zde cum c.tag=n at hn ⊢;(conv=>whnf);refine zaa (c:=0<=(if 0>paths then 0 else paths)/\(if 0>paths then 0 else paths)=(if 0>paths then 0 else paths)/\(if 0>paths then 0 else paths)*8<=140737488355328) zz0 ?_;(conv=>whnf)
 (refine cL ?_;refine dLm (zko _ _) ?_)
 rw [hN];(conv=>whnf);refine zhw.meet PUnit (fun _=>hs 165 [(0,zdz l),(1,i64 cum),(6,.ptr 6 0),(8,zeg),(10,.own 900),(11,zeg),(12,i64 n),(13,i64 (cum+l.length))] [(6,.live (.cells 61 c.cells)),(900,ybr (List.replicate paths.toNat 0))]) ?_ ?_
 . have e21:zai.live (.row 3 1 (List.replicate (if 0>paths then 0 else paths).toNat [pi 0]))=ybr (List.replicate paths.toNat 0):=by
    rw [zy0 (by omega),ybr,zy74]
   (conv=>whnf);refine zah (fun c1=>?_) (fun c1=>?_)
   . have c1:0<l.length:=by simpa using c1
     have e1:=hr.zjy (l.length-1) (l[l.length-1]) (zy3 zz0);(conv=>whnf);refine sF ?_;refine zca (l.length-1) zz3 zz0 ?_;(conv=>whnf);exact ⟨⟨⟩,(zax [(6,some 6),(900,some 21)] zz78)⟩
   . have c1:l.length=0:=by simpa using c1
     (conv=>whnf);exact ⟨⟨⟩,(zax [(6,some 6),(900,some 21)] zz78)⟩
 rintro ⟨⟩;(conv=>whnf);by_cases k1:n<cum\/n>cum+l.length
 . rw [zy1 k1]
   by_cases k2:n<cum
   . refine sT ?_
     exact yy82
   . refine sN ?_
     refine sT ?_;exact yy82
 . rw [zy0 k1]
   refine sN ?_;refine sN ?_
   (refine zat [(0,50)]  ?_;(conv=>whnf);refine dO (zdu l hl) ?_)
   refine ⟨{x:List zbo×List zbo×List zbo×List Int×Int // SI l c n paths.toNat cum x},fun | ⟨(a,b,out,zgz,high),_⟩=>hs 165 [(6,.ptr 6 0),(8,.own 901),(10,.own 900),(11,zeg),(12,i64 n),(14,i64 high),(50,.own 902),(51,i64 l.length),(52,i64 a.length)] [(6,.live (.cells 61 c.cells)),(900,ybr zgz),(901,zja out),(902,zja l)],fun x=>x.1.2.1.length,⟨([],l,[],List.replicate paths.toNat 0,0),rfl,rfl,rfl,rfl,zy70 _,by dsimp only;simp;omega⟩,?_,?_⟩
   . exact (zbe [(6,some 6),(900,some 900),(901,none),(902,some 50)])
   rintro ⟨⟨a,b,out,zgz,high⟩,hi⟩;have h:=hi.split;dsimp only at h;cases b with
   | nil =>
    have hz:=zbk h;obtain ⟨h1,h2,h3,h4,h5,h6⟩:=hi;dsimp only at h1 h2 h3 h4 h5 h6;rw [zy5] at h1;subst h1;rw [<- h3,<- h4,<- h2];have hlen:out.length<=l.length:=by rw [h2,left,zy2];exact zy27 _ _
    (conv=>whnf);refine sN ?_;refine ⟨{x:List zbo×List zbo // out=x.1++x.2},fun | ⟨(a,b),_⟩=>hs 165 [(8,.own 901),(10,.own 900),(11,.own 903),(12,i64 n),(14,i64 high),(118,i64 out.length),(119,i64 a.length)] [(900,ybr zgz),(901,zja (a.map (age high)++b)),(903,ybr (lost high a))],fun x=>x.1.2.length,⟨([],out),rfl⟩,?_,?_⟩
    . exact (zbe [(900,some 900),(901,some 901),(903,none)])
    rintro ⟨⟨a,b⟩,h⟩;dsimp only at h;cases b with
    | nil =>
     have hz:=zbk h;rw [zy5] at h;subst h;(conv=>whnf);refine sN ?_;exact zap [(0,some 901),(1,some 900),(2,some 903)] rfl rfl trivial rfl rfl ⟨⟨rfl,.inl ⟨901,rfl,by exact zar zz156⟩⟩,⟨rfl,.inl ⟨900,rfl,rfl⟩⟩,⟨rfl,.inl ⟨903,rfl,rfl⟩⟩,trivial⟩
    | cons s b =>
     have hz:=zay h;have ea:(a++[s]).map (age high)++b=a.map (age high)++age high s::b:=by simp
     have el:lost high (a++[s])=lost high a++lost high [s]:=by simp [lost]
     have hln:(lost high a).length<=a.length:=by rw [lost,zy2];exact zy27 _ _
     (conv=>whnf);refine sT ?_
     (try refine sG ?_)
     refine sO ?_;refine zaj (a:=a.map (age high)) (b:=b) (s:=s) rfl zz5 (zw ?_);by_cases c1:s.state=1
     . refine sN ?_
       refine zaj (a:=a.map (age high)) (b:=b) (s:=s) rfl zz5 (zw ?_);by_cases c2:s.number<high
       . refine sN ?_
         refine zaj (a:=a.map (age high)) (b:=b) (s:=s) rfl zz5 (zw ?_);refine sR ?_;refine zaj (a:=a.map (age high)) (b:=b) (s:=s) rfl zz5 (zw ?_);refine zcg zz5 zz5 (zw ?_);by_cases c3:W (s.missed+1)>=3
         . have e1:age high s={s with missed:=W (s.missed+1),state:=3}:=by rw [age,zy1 ⟨c1,c2⟩,zy1 c3]
           have e2:lost high [s]=[s.number]:=by simp [lost,c1,c2,c3]
           refine sT ?_;refine zcg zz5 zz5 (zw ?_);refine zcg zz5 zz5 (zw ?_);refine zaa (c:=(((lost high a).map fun n=>[pi n]).length+1)*8<=140737488355328) zz6 (zw ?_);refine sF ?_;exact ⟨⟨(a++[s],b),zae h⟩,(zax [(900,some 900),(901,some 901),(903,some 159)] (by repeat' (first | exact z0 | refine z1 ?_ | refine ⟨?_,?_⟩ | ((rw [ea];exact (xbj (by simp) (by rw [e1];rfl)).symm)) | ((rw [el,e2];exact (zek (f:=fun n=>[pi n]) rfl).symm)) | exact z2))),by simp⟩
         . have e1:age high s={s with missed:=W (s.missed+1)}:=by rw [age,zy1 ⟨c1,c2⟩,zy0 c3]
           have e2:lost high [s]=[]:=by simp [lost,c1,c2,c3]
           refine sN ?_;refine sF ?_;exact ⟨⟨(a++[s],b),zae h⟩,(zax [(900,some 900),(901,some 901),(903,some 903)] (by repeat' (first | exact z0 | refine z1 ?_ | refine ⟨?_,?_⟩ | ((rw [ea];exact (zei (by simp) (by rw [e1];rfl)).symm)) | ((rw [el,e2,zy5];rfl)) | exact z2))),by simp⟩
       . have e1:age high s=s:=by rw [age,zy0 fun h=>c2 h.2]
         have e2:lost high [s]=[]:=by simp [lost,c2]
         exact yy138
     . have e1:age high s=s:=by rw [age,zy0 fun h=>c1 h.1]
       have e2:lost high [s]=[]:=by simp [lost,c1]
       exact yy138
   | cons s b =>
    have hz:=zay h;obtain ⟨hnum,hpa0,hpa1⟩:=hr.at h;have hnx:=hi.next hnum hc0;have hhi:=hi.h1;have hh0:=hi.h0;have hcl:=hi.zgz;have hol:out.length<=a.length:=by have:=hi.out;dsimp only at this;rw [this,left,zy2];exact zy27 _ _
    dsimp only at hhi hh0 hcl;have hcl:zgz.length=paths.toNat:=by rw [hcl,znf]
    have hby:=hl.bytes;rw [h,zhu,zgq] at hby;(conv=>whnf);refine sT ?_;refine sO ?_;refine zaj h rfl (zw ?_);by_cases g:s.number>n
    . refine sT ?_
      refine sR ?_
      (refine cL ?_;refine dL (ypc c.zas _ zz0) ?_)
      by_cases hh:has c.zas (W (s.number-n))=true
      . have hk:here c n s=true:=by rw [here,hh];simp
        refine sN ?_;have eA:zai.live (.row 3 1 ((zgz.map fun n=>[pi n]).set s.path.toNat [pi (W (zgz[s.path.toNat]'zz0+((s.chunk.data.map zco).length:Int)))]))=ybr (yak zgz s.path s.chunk.data.length):=by
         rw [yak,ybr,zy62,zy3 (by omega),zy116,zy2]
        by_cases q:s.state=1\/s.state=3
        . have hcm:comes c n s=true:=by rw [comes,hk,zy96];rcases q with q | q<;>rw [q]<;>rfl
          rw [zy1 g,zok,zy1 hcm,zoo,zy1 hcm,zbp,zy1 hcm] at hnx;have emx:(if s.number>high then s.number else high)=s.number:=by split<;>omega
          by_cases q1:s.state=1
          . refine sT ?_
            (repeat' (first | refine sT ?_ | refine sN ?_))
            refine sO ?_;refine zca s.path.toNat zz0 zz0 (zw ?_);refine sR ?_;refine sO ?_;refine zca s.path.toNat zz0 zz0 (zw ?_);refine sD ?_;exact yy42
          . refine sN ?_
            refine sT ?_
            (repeat' (first | refine sT ?_ | refine sN ?_))
            refine sO ?_;refine zca s.path.toNat zz0 zz0 (zw ?_);refine sR ?_;refine sO ?_;refine zca s.path.toNat zz0 zz0 (zw ?_);refine sD ?_;exact yy42
        . have hcm:comes c n s=false:=by
           rw [comes,hk,zy96];simp only [not_or] at q;simp [q.1,q.2]
          rw [zy1 g,zok,zy0 (by rw [hcm];decide),zoo,zy0 zz97,zbp,zy0 zz97] at hnx;have q1:s.state≠1:=fun h=>q (.inl h)
          have q2:s.state≠3:=fun h=>q (.inr h)
          refine sN ?_;refine sN ?_;exact yy42
      . have hk:here c n s=false:=by rw [here];simp [hh];omega
        have hcm:comes c n s=false:=by rw [comes,hk];rfl
        rw [zy1 g,zok,zy0 (by rw [hcm];decide),zoo,zy0 zz97,zbp,zy0 zz97] at hnx;refine zac (by simpa using hh) (zw ?_);refine zaa (c:=((out.map zbo.row).length+1)*200<=140737488355328) om (zw ?_);refine sF ?_;exact ⟨⟨_,hnx⟩,(zax [(6,some 6),(900,some 900),(901,some 73),(902,some 902)] zz82),by simp⟩
    . have hk:here c n s=true:=by rw [here];simp;left;omega
      refine sN ?_;have eA:zai.live (.row 3 1 ((zgz.map fun n=>[pi n]).set s.path.toNat [pi (W (zgz[s.path.toNat]'zz0+((s.chunk.data.map zco).length:Int)))]))=ybr (yak zgz s.path s.chunk.data.length):=by
       rw [yak,ybr,zy62,zy3 (by omega),zy116,zy2]
      by_cases q:s.state=1\/s.state=3
      . have hcm:comes c n s=true:=by rw [comes,hk,zy96];rcases q with q | q<;>rw [q]<;>rfl
        rw [zy0 g,zok,zy1 hcm,zoo,zy1 hcm,zy5] at hnx;have emx:(if s.number>high then s.number else high)=s.number:=by split<;>omega
        by_cases q1:s.state=1
        . refine sT ?_
          exact yy72
        . refine sN ?_
          refine sT ?_;exact yy72
      . have hcm:comes c n s=false:=by
         rw [comes,hk,zy96];simp only [not_or] at q;simp [q.1,q.2]
        rw [zy0 g,zok,zy0 (by rw [hcm];decide),zoo,zy0 zz97,zy5] at hnx;have q1:s.state≠1:=fun h=>q (.inl h)
        have q2:s.state≠3:=fun h=>q (.inr h)
        refine sN ?_;refine sN ?_;refine sN ?_;refine sF ?_;exact ⟨⟨_,hnx⟩,(zax ((6,some 6)::(pJ3 [])) zz52),by simp⟩
end Sco
namespace Snd
open Ser
def zkd (ps:List Path) (part:Int) (moved:Bool) (A:List Int):List Path:=ps.mapIdx fun i p=>if A[i]?.getD 0>0 then Paths.zka p (A[i]?.getD 0) part moved else p
theorem yat {ps:List Path} {part:Int} {moved:Bool} {A:List Int}:(zkd ps part moved A)[A.length]?=ps[A.length]?:=by
 rw [zkd,zy90,zy51 (zy24 _)];cases ps[A.length]?<;>simp
theorem zyn {ps:List Path} {part:Int} {moved:Bool} {A:List Int} {n:Int} {p:Path} (hp:ps[A.length]?=some p) :
 zkd ps part moved (A++[n])=(zkd ps part moved A).set A.length (if n>0 then Paths.zka p n part moved else p):=by
 apply zy82;intro i;rw [zy128,zkd,zkd,zy90,zy90,zy108];have hl:=(zy8.1 hp).1;by_cases hi:A.length=i
 . subst hi
   rw [zy1 rfl,zy1 hl,hp];simp
 . rw [zy0 hi]
   rcases zy79 i A.length with h | h
   . rw [zy46 h]
   . rw [zy51 (l:=A++[n]) (by simp;omega),zy51 (l:=A) h]
theorem ztj {l:List zbo} (h:Sco.zev l) (cum:Int) (c:Chunk) (paths:Int):Sco.zev (Sco.zin l cum c paths).1:=by
 have hf:∀ (p:zbo->Bool) (l:List zbo),Sco.total (l.filter p)<=Sco.total l:=by
  intro p l
  induction l with
  | nil=>exact zy24 _
  | cons x l ih =>
   rw [zy49,Sco.zgq];split
   . rw [Sco.zgq];omega
   . omega
 have hm:∀ (f:zbo->zbo) (l:List zbo),(∀ x,(f x).chunk=x.chunk)->Sco.total (l.map f)=Sco.total l:=by
  intro f l hf;simp only [Sco.total,zy113];congr 1;exact zy93 fun s _=>by simp [hf]
 unfold Sco.zin;split
 . exact h
 . refine ⟨?_,?_⟩
   . have:=zy27 (fun s:zbo=>decide (s.number>zde cum c.tag)) l
     have:=h.len;simp only [Sco.left,zy2];omega
   . dsimp only
     rw [hm _ _ (fun x=>by unfold Sco.age;(repeat' split)<;>rfl),Sco.left,hm _ _ (fun x=>by unfold Sco.zbp;split<;>rfl)];exact zy142 (hf _ _) h.bytes
def zoe (s:zag) (c:Chunk) (k:List zbo×Int×List Int×List Int):zag:=zck {s with out:=k.1,cum:=k.2.1,room:=c.room,paths:=zkd s.paths s.config.part (decide (k.2.1>s.cum)) k.2.2.1}
def zjk (part:Int) (t:zag) (lost:List Int):zag:=match lost.getLast? with
 | none=>t
 | some z=>if z>t.recover then {t with paths:=setAt t.paths (choose t) fun p=>Paths.zpt p part,recover:=W (t.next-1)} else t
def zgp (moved:Bool) (u:zag):zag:=if moved=true/\(Sco.zdy u.out u.cum).1>u.cum then {u with forward:=true} else u
theorem zpu (s:zag) (c:Chunk):heard s c=settle (zgp (decide ((Sco.zin s.out s.cum c s.paths.length).2.1>s.cum)) (zjk s.config.part (zoe s c (Sco.zin s.out s.cum c s.paths.length)) (Sco.zin s.out s.cum c s.paths.length).2.2.2)):=rfl
def upS (t:zag) (part:Int) (w:Path):zag:={t with paths:=t.paths.set (choose t) (Paths.zpt w part),recover:=W (t.next-1)}
theorem Fit.fwd {s:zag} (h:Fit s):Fit {s with forward:=true}:=⟨h.queue,h.had,h.out,h.paths,h.mids,h.fates,h.data⟩
theorem Fit.up {s:zag} (h:Fit s) {part:Int} {w:Path}:Fit (upS s part w):=⟨h.queue,h.had,h.out,by show (s.paths.set _ _).length<_;rw [zy26];exact h.paths,h.mids,h.fates,h.data⟩
theorem yrk (s:zag) (c:Chunk) (hs:Fit s) (hr:Sco.yiz s.out s.cum s.paths.length) (hsp:c.zas.length<2 ^ 60) :
 zan Tryz.prog 34 [s.hv,c.hv] zad (xfh (yfg s c) 0 1 2 3 4 5) (lk .free (zzt (yfg s c) 0 1 2 3 4 5 [])):=by
 have hs':=hs;obtain ⟨h1,h2,h3,h4,h5,h6,h7⟩:=hs;generalize hT:yfg s c=T;refine zaq mixed Tryz.func34 zz4 [] (fun _=>.inl rfl) ?_;(conv=>whnf)
 (refine zat [(0,20),(1,21),(2,22),(3,23),(4,24),(5,25)]  ?_;(conv=>whnf);refine dO (zdu s hs') ?_)
 by_cases c1:c.kind=2
 case neg =>
  rw [yfg,zy1 c1] at hT;subst hT;refine zac ?_ ?_
  . simpa using c1
  exact yy58
 case pos =>
  rw [yfg,zy0 (fun h=>h c1)] at hT;refine zab ?_ ?_
  . simpa using c1
  conv=>whnf
  repeat refine sG ?_
  have hk:=Sco.yse s.out s.cum c ((s.paths.map Path.row).length:Nat) h3 (by rw [zy2];exact hr) hsp;by_cases k1:zde s.cum c.tag<s.cum\/zde s.cum c.tag>s.cum+s.out.length
  case pos =>
   rw [zy1 k1] at hT;subst hT;rw [Sco.zin,zy1 k1] at hk
   (refine zat [(0,31),(1,32),(2,33)]  ?_;(conv=>whnf);refine dO hk ?_)
   (refine cL ?_;refine dL (zko s.cum c.tag) ?_)
   refine zac ?_ ?_
   . have:zde s.cum c.tag≠s.cum:=by omega
     simpa using this
   exact yy58
  case neg =>
   rw [zy0 k1,zpu] at hT;have hks:=ztj h3 s.cum c s.paths.length;have hlo:(Sco.zin s.out s.cum c s.paths.length).2.2.2.length<=s.out.length:=by
    rw [Sco.zin,zy0 k1];dsimp only;rw [Sco.lost,zy2];refine zy94 (zy27 _ _) ?_;rw [Sco.left,zy2];exact zy27 _ _
   have hK:(Sco.zin s.out s.cum c ((s.paths.map Path.row).length:Nat)).2.1=zde s.cum c.tag:=by rw [Sco.zin,zy0 k1]
   rw [hK] at hk
   (refine zat [(0,31),(1,32),(2,33)]  ?_;(conv=>whnf);refine dO hk ?_)
   (refine cL ?_;refine dL (zko s.cum c.tag) ?_)
   rw [show (zde s.cum c.tag != zde s.cum c.tag)=false from bne_self_eq_false _];(conv=>whnf);refine sD ?_;have hcl:(Sco.zin s.out s.cum c ((s.paths.map Path.row).length:Nat)).2.2.1.length=s.paths.length:=by
    rw [Sco.zin,zy0 k1];simp only [Sco.znf];rw [zy2];rfl
   have hid:s.paths.mapIdx (fun _ p=>p)=s.paths:=by apply List.ext_getElem<;>simp
   have epl:(s.paths.map Path.row).length=s.paths.length:=zy2 _;rw [<- epl] at hT hks hlo;generalize Sco.zin s.out s.cum c ((s.paths.map Path.row).length:Nat)=K at hcl hK hk hT hks hlo ⊢;rw [hK] at hT;refine ⟨{x:List Int×List Int // K.2.2.1=x.1++x.2},fun | ⟨(A,B),_⟩=>hs 133 [(2,.ptr 2 0),(4,.ptr 4 0),(5,.ptr 5 0),(9,.own 907),(10,zbj (decide (zde s.cum c.tag>s.cum))),(55,.own 906),(56,i64 s.paths.length),(57,i64 A.length)] ((2,.live (.cells 32 (ycq s (Sch.qs s.queue) (ints s.sched.had) (Sco.zdz s.out) (zpe s.paths) (ints s.mids) (ints s.fates))))::(4,.live (.cells 32 ylu))::(5,.live (.cells 32 (ycq {s with cum:=zde s.cum c.tag,room:=c.room} (.own 900) (.own 901) (.own 902) (.own 903) (.own 904) (.own 905))))::zzt {s with out:=K.1,paths:=zkd s.paths s.config.part (decide (zde s.cum c.tag>s.cum)) A} 900 901 902 903 904 905 [(906,zxu K.2.2.1),(907,zxu K.2.2.2)]),fun x=>x.1.2.length,⟨([],K.2.2.1),rfl⟩,?_,?_⟩
   . exact (zax [(2,some 2),(4,some 4),(5,some 5),(900,some 20),(901,some 21),(902,some 31),(903,some 23),(904,some 24),(905,some 25),(906,some 32),(907,some 33)] (by repeat' (first | exact z0 | refine z1 ?_ | refine ⟨?_,?_⟩ | ((exact zbl (by rw [zy2];omega))) | ((exact zar (by simp [zkd,hid]))) | exact z2)))
   rintro ⟨⟨A,B⟩,h⟩;dsimp only at h;(conv=>whnf);cases B with
   | cons n B =>
    have hz:=zay h;obtain ⟨p,hp⟩:∃ p,s.paths[A.length]?=some p:=⟨_,zy3 zz0⟩
    have hpl:A.length<(zkd s.paths s.config.part (decide (zde s.cum c.tag>s.cum)) A).length:=by rw [zkd,zy108];omega
    refine sT ?_;refine sOm ?_;refine zaj (f:=fun n:Int=>[pi n]) h rfl (zw ?_);by_cases d1:n>0
    case pos =>
     rw [show decide (n>0)=true from zy9 d1];(conv=>whnf);refine zaa ⟨by omega,by rw [zy2];exact_mod_cast hpl⟩ (zw ?_);refine zam (yat.trans hp) rfl (zw ?_)
     (refine cL ?_;refine dL (Paths.yrd p n s.config.part (decide (zde s.cum c.tag>s.cum))) ?_)
     refine zaa ⟨by omega,by rw [zy2];exact_mod_cast hpl⟩ (zw ?_);refine zam (yat.trans hp) rfl (zw ?_);refine sD ?_;refine sF ?_;exact ⟨⟨(A++[n],B),zae h⟩,(zax ((2,some 2)::((4,some 4)::(5,some 5)::(pJ8 []))) (by repeat' (first | exact z0 | refine z1 ?_ | refine ⟨?_,?_⟩ | ((exact (zfg rfl).trans (zar (by rw [zyn hp,zy1 d1];rfl)))) | exact z2))),by simp⟩
    case neg =>
     rw [show decide (n>0)=false from zy11 d1];(conv=>whnf);refine sF ?_;exact ⟨⟨(A++[n],B),zae h⟩,(zax ((2,some 2)::((4,some 4)::(5,some 5)::(pJ8 []))) (by repeat' (first | exact z0 | refine z1 ?_ | refine ⟨?_,?_⟩ | ((exact zar (by rw [zyn hp,zy0 d1,zlf (yat.trans hp)]))) | exact z2))),by simp⟩
   | nil =>
    have hz:=zbk h;rw [zy5] at h;refine sN ?_;have hcp:(zkd s.paths s.config.part (decide (zde s.cum c.tag>s.cum)) A).length=s.paths.length:=by rw [zkd,zy108]
    (refine zaf [] [(1000,5),(1001,900),(1002,901),(1003,902),(1004,903),(1005,904),(1006,905)] [(0,930),(1,931),(2,932),(3,933),(4,934),(5,935)] ?_;(conv=>whnf);refine dG (ycv {s with cum:=zde s.cum c.tag,room:=c.room,out:=K.1,paths:=zkd s.paths s.config.part (decide (zde s.cum c.tag>s.cum)) A} hks zz83) ?_)
    rw [show zoe s c K=zck {s with cum:=zde s.cum c.tag,room:=c.room,out:=K.1,paths:=zkd s.paths s.config.part (decide (zde s.cum c.tag>s.cum)) A} by rw [zoe,hK,h]] at hT;have hfl:(zck {s with cum:=zde s.cum c.tag,room:=c.room,out:=K.1,paths:=zkd s.paths s.config.part (decide (zde s.cum c.tag>s.cum)) A}).paths.length=s.paths.length:=by
     show (List.mapIdx _ _).length=_;rw [zy108];exact hcp
    have hfo:(zck {s with cum:=zde s.cum c.tag,room:=c.room,out:=K.1,paths:=zkd s.paths s.config.part (decide (zde s.cum c.tag>s.cum)) A}).out=K.1:=rfl;have hft:Fit (zck {s with cum:=zde s.cum c.tag,room:=c.room,out:=K.1,paths:=zkd s.paths s.config.part (decide (zde s.cum c.tag>s.cum)) A}):=⟨h1,h2,hks,by omega,h5,h6,h7⟩
    generalize zck {s with cum:=zde s.cum c.tag,room:=c.room,out:=K.1,paths:=zkd s.paths s.config.part (decide (zde s.cum c.tag>s.cum)) A}=t at hT hfl hfo hft ⊢;generalize decide (zde s.cum c.tag>s.cum)=mv at hT ⊢;have hpl:=hr.p0;obtain ⟨hch,hch2⟩:=zdn (s:=t) zz0;obtain ⟨w,hw⟩:∃ w,t.paths[choose t]?=some w:=⟨_,zy3 hch2⟩
    obtain ⟨K1,K2,K3,K4⟩:=K;dsimp only at hT hcl hK hks h hz hfo hlo ⊢;rcases zy111 K4 with rfl | ⟨L,z,rfl⟩
    case inl =>
     rw [show zjk s.config.part t []=t from rfl] at hT;(conv=>whnf);refine sD ?_;exact yy3
    case inr =>
     rw [zy99] at hT ⊢;have hU:zjk s.config.part t (L++[z])=if z>t.recover then upS t s.config.part w else t:=by
      unfold zjk;rw [List.getLast?_concat];dsimp only;rw [upS,setAt,hw]
     rw [hU] at hT;have hll:((L++[z]).map (fun n:Int=>[pi n])).length=L.length+1:=by simp
     have hLl:L.length<2 ^ 38:=by
      have:=hlo;rw [zy99,zy10] at this;simp only [zy6,zy12] at this;have:=h3.len;omega
     rw [show decide (((List.map (fun n:Int=>[pi n]) (L++[z])).length:Int)>0)=true from zy9 (by omega)];(conv=>whnf);refine sFm ?_;refine zaa zz0 (zw ?_);refine zaj (f:=fun n:Int=>[pi n]) (a:=L) (b:=[]) (s:=z) rfl zz0 (zw ?_);refine sD ?_;by_cases e0:z>t.recover
     case neg =>
      rw [zy0 e0] at hT;rw [show decide (z>t.recover)=false from zy11 e0];(conv=>whnf)
      repeat refine sG ?_
      exact yy3
     case pos =>
      rw [zy1 e0] at hT;rw [show decide (z>t.recover)=true from zy9 e0];(conv=>whnf);have pc:=Paths.zeq t.paths zz0;rw [hch] at pc
      (refine cL ?_;refine dL pc ?_)
      refine zaa zz6 (zw ?_);refine zam hw rfl (zw ?_)
      (refine cL ?_;refine dL (Paths.zhi w s.config.part) ?_)
      refine zaa zz6 (zw ?_);refine zam hw rfl (zw ?_);refine sD ?_;refine sR ?_
      (refine zaf [] [(1000,932)] [(0,960)] ?_;(conv=>whnf);refine dG (Sco.zfh t.out t.cum zz148) ?_)
      cases mv with
      | false =>
       rw [show zgp false (upS t s.config.part w)=(upS t s.config.part w) from zy0 (fun h=>absurd h.1 (by decide))] at hT;subst hT;(conv=>whnf)
       (refine zaf [] [(1000,5),(1001,930),(1002,931),(1003,932),(1004,933),(1005,934),(1006,935)] [(0,980),(1,981),(2,982),(3,983),(4,984),(5,985)] ?_;(conv=>whnf);refine dG (zfi (upS t s.config.part w) ((Fit.up hft))) ?_ ⟨rfl,rfl,rfl,⟨zz1,⟨zz1,⟨zz1,⟨zz1,⟨⟨rfl,_,rfl,.inl ⟨rfl,(zfg rfl)⟩⟩,⟨zz1,⟨zz1,trivial⟩⟩⟩⟩⟩⟩⟩,⟨⟨rfl,rfl⟩,⟨⟨rfl,rfl⟩,⟨⟨rfl,rfl⟩,⟨⟨rfl,rfl⟩,⟨⟨rfl,rfl⟩,⟨⟨rfl,rfl⟩,trivial⟩⟩⟩⟩⟩⟩,rfl,rfl,rfl⟩)
       exact yy4
      | true =>
       (conv=>whnf);by_cases e1:(Sco.zdy t.out t.cum).1>t.cum
       case pos =>
        rw [show zgp true (upS t s.config.part w)={(upS t s.config.part w) with forward:=true} from zy1 ⟨rfl,e1⟩] at hT;subst hT;rw [show decide ((Sco.zdy t.out t.cum).1>t.cum)=true from zy9 e1];(conv=>whnf)
        (refine zaf [] [(1000,5),(1001,930),(1002,931),(1003,932),(1004,933),(1005,934),(1006,935)] [(0,980),(1,981),(2,982),(3,983),(4,984),(5,985)] ?_;(conv=>whnf);refine dG (zfi ({(upS t s.config.part w) with forward:=true}:zag) ((Fit.fwd (Fit.up hft)))) ?_ ⟨rfl,rfl,rfl,⟨zz1,⟨zz1,⟨zz1,⟨zz1,⟨⟨rfl,_,rfl,.inl ⟨rfl,(zfg rfl)⟩⟩,⟨zz1,⟨zz1,trivial⟩⟩⟩⟩⟩⟩⟩,⟨⟨rfl,rfl⟩,⟨⟨rfl,rfl⟩,⟨⟨rfl,rfl⟩,⟨⟨rfl,rfl⟩,⟨⟨rfl,rfl⟩,⟨⟨rfl,rfl⟩,trivial⟩⟩⟩⟩⟩⟩,rfl,rfl,rfl⟩)
        exact yy4
       case neg =>
        rw [show zgp true (upS t s.config.part w)=(upS t s.config.part w) from zy0 (fun h=>e1 h.2)] at hT;subst hT;rw [show decide ((Sco.zdy t.out t.cum).1>t.cum)=false from zy11 e1];(conv=>whnf)
        (refine zaf [] [(1000,5),(1001,930),(1002,931),(1003,932),(1004,933),(1005,934),(1006,935)] [(0,980),(1,981),(2,982),(3,983),(4,984),(5,985)] ?_;(conv=>whnf);refine dG (zfi (upS t s.config.part w) ((Fit.up hft))) ?_ ⟨rfl,rfl,rfl,⟨zz1,⟨zz1,⟨zz1,⟨zz1,⟨⟨rfl,_,rfl,.inl ⟨rfl,(zfg rfl)⟩⟩,⟨zz1,⟨zz1,trivial⟩⟩⟩⟩⟩⟩⟩,⟨⟨rfl,rfl⟩,⟨⟨rfl,rfl⟩,⟨⟨rfl,rfl⟩,⟨⟨rfl,rfl⟩,⟨⟨rfl,rfl⟩,⟨⟨rfl,rfl⟩,trivial⟩⟩⟩⟩⟩⟩,rfl,rfl,rfl⟩)
        exact yy4
theorem yxm (s:zag) (c:Chunk) (hs:Fit s) (hr:Sco.yiz s.out s.cum s.paths.length) (hsp:c.zas.length<2 ^ 60) :
 zan Tryz.prog 34 [s.hv,c.hv] zad (yfg s c).hv zad:=by
 refine zcn Tryz.func34 (yrk s c hs hr hsp) ?_;(conv=>whnf)
 rfl
end Snd
namespace Snd
open Ser
structure QI (c:Config) (fates:List Int) (m:zak):Prop where
 id0:0<=m.id
 id1:m.id<fates.length
 fate:fates[m.id.toNat]?=some 1
 st0:0<=m.message.stream
 st1:m.message.stream<c.streams
 len1:1<=m.message.data.length
 len2:m.message.data.length<=60
 parts:0<=m.parts
 sent:m.sent=m.parts*c.part
 left:m.sent<m.message.data.length
structure XI (np nf:Nat) (x:zbo):Prop where
 path0:0<=x.path
 path1:x.path<np
 id0:0<=x.id
 id1:x.id<nf
 zas:x.chunk.zas=[]
 zbr:x.chunk.zbr=[]
 data:x.chunk.data.length<=16
def zqg (q:List zak):Int:=(q.map fun m=>61-m.parts).sum
structure SI (N:Nat) (s:zag):Prop where
 cfg:zjf s.config=0
 nums:∀ (i:Nat) x,s.out[i]?=some x->x.number=s.cum+1+i
 next:s.next=s.cum+1+s.out.length
 cum:s.config.first-1<=s.cum
 owes:s.next+zqg s.queue<=s.config.first+61*s.fates.length
 npaths:(s.paths.length:Int)=s.config.paths
 nhad:(s.sched.had.length:Int)=s.config.streams
 nmids:(s.mids.length:Int)=2*s.config.streams
 waits:(s.queue.length:Int)<=s.config.waiting
 queue:∀ m∈s.queue,QI s.config s.fates m
 out:∀ x∈s.out,XI s.paths.length s.fates.length x
 zba:∀ (i:Nat) p,s.paths[i]?=some p->p.zba=Sco.fl i s.out
 many:s.fates.length<=N
 few:N<=2 ^ 20
theorem zdf {c:Config} (h:zjf c=0):1<=c.streams/\c.streams<=4/\1<=c.paths/\c.paths<=2/\1<=c.part/\c.part<=16/\40<=c.packet/\c.packet<=120/\1<=c.waiting/\c.waiting<=12/\0<=c.first/\c.first<65536/\1<=(c).turns/\(c).turns<=5:=by
 unfold zjf at h;split at h
 . cases h
 . split at h
   . cases h
   . omega
theorem QI.few {c:Config} {fates:List Int} {m:zak} (h:QI c fates m) (hp:1<=c.part):m.parts<=59:=by
 have h1:=h.sent;have h2:=h.left;have h3:=h.len2;have h4:=h.parts;have h5:m.parts*1<=m.parts*c.part:=Int.mul_le_mul_of_nonneg_left hp h4;omega
theorem ykt {c:Config} {fates:List Int} (hp:1<=c.part):∀ {q:List zak},(∀ m∈q,QI c fates m)->0<=zqg q
 | [],_=>by simp [zqg]
 | m::q,h=>by
  have h1:=(h m zz5).few hp;have h2:=ykt hp (q:=q) fun x hx=>h x zz92
  simp only [zqg,zy29,zy134] at h2 ⊢;omega
theorem zmr (m:zak) (q:List zak):zqg (m::q)=61-m.parts+zqg q:=by simp [zqg]
theorem znm (a b:List zak):zqg (a++b)=zqg a+zqg b:=by simp [zqg]
section
variable {N:Nat} {s:zag}
theorem SI.len (h:SI N s):(s.out.length:Int)<=61*N:=by
 have h1:=h.next;have h2:=h.cum;have h3:=h.owes;have h4:=ykt (by have:=zdf h.cfg;omega) h.queue;have h5:=h.many;omega
theorem SI.nextle (h:SI N s):s.next<=65536+61*N:=by
 have h3:=h.owes;have h4:=ykt (by have:=zdf h.cfg;omega) h.queue;have h5:=h.many;have h6:=zdf h.cfg;omega
theorem ypj:∀ {l:List zbo},(∀ x∈l,x.chunk.data.length<=16)->Sco.total l<=16*l.length
 | [],_=>by simp [Sco.total]
 | x::l,h=>by
  have h1:=h x zz5;have h2:=ypj (l:=l) fun y hy=>h y zz126
  rw [Sco.zgq,zy6];omega
theorem SI.total (h:SI N s):(Sco.total s.out:Int)<=16*(61*N):=by
 have h1:=ypj fun x hx=>(h.out x hx).data
 have h2:=h.len;omega
theorem SI.fit (h:SI N s):Fit s:=by
 have h1:=h.len;have h2:=h.few;have h3:=h.total;have h4:=zdf h.cfg;have h5:=h.npaths;have h6:=h.nhad;have h7:=h.nmids;have h8:=h.waits;have h9:=h.many;exact ⟨by omega,by omega,⟨by omega,by omega⟩,by omega,by omega,by omega,fun m hm=>by have:=(h.queue m hm).len2;omega⟩
theorem SI.right (h:SI N s):Sco.yiz s.out s.cum s.paths.length:=by
 have h1:=h.npaths;have h2:=zdf h.cfg;have h3:=h.nextle;have h4:=h.next;have h5:=h.cum;have h6:=h.few;exact ⟨fun x hx=>⟨(h.out x hx).path0,(h.out x hx).path1⟩,by omega,by omega,by omega,by omega,h.nums⟩
theorem SI.pf (h:SI N s):PF 62 s:=by
 have h1:=h.len;have h2:=h.few;have h3:=h.total;have h4:=zdf h.cfg;have h5:=h.npaths;have h6:=h.nhad;have h7:=h.nmids;have h8:=h.waits;have h9:=h.many;refine ⟨⟨h.fit,by omega,fun m hm=>⟨(h.queue m hm).id0,(h.queue m hm).id1⟩,fun x hx=>⟨(h.out x hx).id0,(h.out x hx).id1⟩⟩,by omega,by omega,by omega,fun m hm=>?_,fun x hx=>?_,by omega,by omega⟩
 . have q:=h.queue m hm
   have q1:=q.st0;have q2:=q.st1;have q3:=q.len2;have q4:=q.sent;have q5:=q.parts;have q6:0<=m.parts*s.config.part:=Int.mul_nonneg q5 zz0;refine ⟨⟨q1,by omega,by omega,by omega,fun _=>?_⟩,by omega,by omega,q.left,by omega⟩;unfold zgu;split<;>omega
 . have q:=h.out x hx
   exact ⟨by rw [q.zas];decide,by rw [q.zbr];decide⟩
theorem SI.mono {M:Nat} (h:SI N s) (h1:N<=M) (h2:M<=2 ^ 20):SI M s:=⟨h.cfg,h.nums,h.next,h.cum,h.owes,h.npaths,h.nhad,h.nmids,h.waits,h.queue,h.out,h.zba,zy94 h.many h1,h2⟩
end
theorem xgy {c:Config} (h:zjf c=0):SI 0 (yby c):=by
 obtain ⟨h1,h2,h3,h4,h5,h6,h7,h8,h9,h10,h11,h12,h13,h14⟩:=zdf h;refine ⟨h,fun i x hx=>?_,?_,?_,?_,?_,?_,?_,?_,fun m hm=>?_,fun x hx=>?_,fun i p hp=>?_,?_,by decide⟩
 . simp [yby] at hx
 . simp [yby]
 . show c.first-1<=c.first-1;omega
 . show c.first+zqg []<=c.first+61*(([]:List Int).length:Int);simp [zqg]
 . show ((List.replicate c.paths.toNat (Paths.new c.part)).length:Int)=c.paths;simp;omega
 . show ((Sch.new c.streams).had.length:Int)=c.streams
   simp [Sch.new];omega
 . show ((List.replicate (2*c.streams).toNat (0:Int)).length:Int)=2*c.streams;simp;omega
 . show (([]:List zak).length:Int)<=c.waiting;simp;omega
 . simp [yby] at hm
 . simp [yby] at hx
 . have hp:(List.replicate c.paths.toNat (Paths.new c.part))[i]?=some p:=hp
   rw [zy121] at hp;split at hp
   . cases hp;simp [Paths.new,Sco.fl,yby]
   . cases hp
 . show ([]:List Int).length<=0;simp
theorem QI.more {c:Config} {fates:List Int} {m:zak} (h:QI c fates m) (f:Int):QI c (fates++[f]) m :=
 ⟨h.id0,by have:=h.id1;simp;omega,by have:=h.id0;have:=h.id1;rw [zy46 (by omega)];exact h.fate,h.st0,h.st1,h.len1,h.len2,h.parts,h.sent,h.left⟩
theorem XI.more {np nf nf':Nat} {x:zbo} (h:XI np nf x) (hn:nf<=nf'):XI np nf' x:=⟨h.path0,h.path1,h.id0,by have:=h.id1;omega,h.zas,h.zbr,h.data⟩
theorem zwt {N:Nat} {s:zag} {m:Message} (h:SI N s) (he:zff s m=0) (hN:N+1<=2 ^ 20):SI (N+1) (zht s m):=by
 unfold zff at he;split at he
 . cases he
 split at he
 . cases he
 split at he
 . cases he
 rename_i c1 c2 c3;refine ⟨h.cfg,h.nums,h.next,h.cum,?_,h.npaths,h.nhad,h.nmids,?_,fun q hq=>?_,fun x hx=>(h.out x hx).more (by simp [zht]),h.zba,?_,hN⟩
 . have h1:=h.owes
   show s.next+zqg (s.queue++[⟨s.fates.length,-1,s.clock,0,0,m⟩])<=s.config.first+61*((s.fates++[1]).length:Int);rw [znm,zmr];simp only [zqg,zy114,List.sum_nil,zy10,zy6,zy12] at h1 ⊢;push_cast;omega
 . show ((s.queue++[_]).length:Int)<=s.config.waiting
   simp;omega
 . rcases zy21.1 hq with hq | hq
   . exact (h.queue q hq).more 1
   . rw [zy23] at hq;subst hq
     exact ⟨by simp,by simp [zht];omega,by simp [zht],by dsimp only;omega,by show m.stream<s.config.streams;omega,by dsimp only;omega,by dsimp only;omega,by simp,by simp,by dsimp only;omega⟩
 . have:=h.many
   show (s.fates++[1]).length<=N+1;simp;omega
theorem ytm (id:Int) (s:zag) (m:zak) (hm:m.parts<=60):W (s.next+1)=s.next+1->(zfb id s m).next+zqg ([m].filter fun m=>decide (m.id≠id))<=s.next+zqg [m]:=by
 intro hW;unfold zfb;by_cases c:m.id=id
 . have e1:[m].filter (fun m=>decide (m.id≠id))=[]:=by simp [c]
   rw [e1];split
   . show W (s.next+1)+zqg []<=_
     simp only [zqg,zy114,List.sum_nil,zy29,zy134];omega
   . simp only [zqg,zy114,List.sum_nil,zy29,zy134];omega
 . rw [zy0 (fun h=>c h.1)]
   simp [c,zqg]
theorem ymi (id:Int):∀ (q:List zak) (s:zag),(∀ m∈q,m.parts<=60)->-1000<=s.next->s.next+q.length<2 ^ 60->s.next=s.cum+1+s.out.length->(∀ (i:Nat) x,s.out[i]?=some x->x.number=s.cum+1+i) ->
 (q.foldl (zfb id) s).next=s.cum+1+(q.foldl (zfb id) s).out.length/\(∀ (i:Nat) x,(q.foldl (zfb id) s).out[i]?=some x->x.number=s.cum+1+i)/\(q.foldl (zfb id) s).next+zqg (q.filter fun m=>decide (m.id≠id))<=s.next+zqg q
 | [],s,_,_,_,h1,h2=>⟨h1,h2,zy70 _⟩
 | m::q,s,hq,h0,hb,h1,h2=>by
  have hW:W (s.next+1)=s.next+1:=by simp only [zy6] at hb;exact zbt zz0 zz0
  have hk:=zyp id s m;have hcum:(zfb id s m).cum=s.cum:=by rw [hk]
  have ho:=ytm id s m (hq m zz5) hW;have h1':(zfb id s m).next=(zfb id s m).cum+1+(zfb id s m).out.length/\s.next<=(zfb id s m).next/\(zfb id s m).next<=s.next+1:=by
   unfold zfb;split
   . dsimp only;rw [hW];simp;omega
   . exact ⟨h1,by omega,by omega⟩
  have h2':∀ (i:Nat) x,(zfb id s m).out[i]?=some x->x.number=(zfb id s m).cum+1+i:=by
   rw [hcum];unfold zfb;split
   . intro i x hx
     have hx:(s.out++[zpp s.next m])[i]?=some x:=hx;rcases zy79 i s.out.length with hi | hi
     . rw [zy46 hi] at hx;exact h2 i x hx
     . rw [zy44 hi] at hx
       have:i-s.out.length=0:=by
        rcases zy141 (i-s.out.length) with h | h
        . exact h
        . rw [zy51 (by simp;omega)] at hx;cases hx
       rw [this] at hx;cases hx;show s.next=_;omega
   . exact h2
  obtain ⟨r1,r2,r3⟩:=ymi id q (zfb id s m) (fun x hx=>hq x zz92) zz0 (by simp only [zy6] at hb;push_cast at hb;omega) h1'.1 h2';rw [zy50];rw [hcum] at r1 r2;refine ⟨r1,r2,?_⟩;have e1:(m::q).filter (fun m=>decide (m.id≠id))=[m].filter (fun m=>decide (m.id≠id))++q.filter fun m=>decide (m.id≠id):=by rw [<- zy45];rfl
  rw [e1,znm,zmr];simp only [zqg,zy29,zy114,zy134,List.sum_nil] at ho r3 ⊢;omega
theorem yto {np nf:Nat} (id:Int) (hnp:0<np) (hid:0<=id/\id<nf):∀ (q:List zak) (s:zag),(∀ x∈s.out,XI np nf x)->∀ x∈(q.foldl (zfb id) s).out,XI np nf x
 | [],s,h,x,hx=>h x hx
 | m::q,s,h,x,hx=>by
  refine yto id hnp hid q (zfb id s m) (fun y hy=>?_) x hx;unfold zfb at hy;split at hy
  . rename_i c
    rcases zy21.1 hy with hy | hy
    . exact h y hy
    . rw [zy23] at hy;subst hy
      exact ⟨zy70 _,by show (0:Int)<np;omega,by show 0<=m.id;omega,by show m.id<nf;omega,rfl,rfl,by simp [zpp]⟩
  . exact h y hy
theorem zyq {s:zag} {i:Nat} {p:Path} (h:(zck s).paths[i]?=some p):p.zba=Sco.fl i s.out:=by
 have h:(s.paths.mapIdx fun i p=>flP s.out i p)[i]?=some p:=h;rw [zy90] at h;cases hp:s.paths[i]? with
 | none=>rw [hp] at h;cases h
 | some q=>rw [hp] at h;cases h;rfl
theorem zuc (s:zag) (id:Nat):(zfc s id).out=(s.queue.foldl (zfb id) {s with fates:=s.fates.set id 3}).out.map (Sco.zgr id):=rfl
theorem yfa (s:zag) (id:Nat):(zfc s id).next=(s.queue.foldl (zfb id) {s with fates:=s.fates.set id 3}).next:=rfl
theorem zrj (s:zag) (id:Nat):(zfc s id).queue=s.queue.filter fun m=>decide (m.id≠(id:Int)):=rfl
theorem znk (s:zag) (id:Nat):(zfc s id).fates=s.fates.set id 3:=by
 show (s.queue.foldl (zfb id) {s with fates:=s.fates.set id 3}).fates=_;rw [znh]
theorem yju {s:zag} {id:Nat} {i:Nat} {p:Path} (h:(zfc s id).paths[i]?=some p):p.zba=Sco.fl i (zfc s id).out:=by
 unfold zfc at h ⊢;dsimp only at h ⊢;have:=zyq h;exact this
theorem yjv {N:Nat} {s:zag} (h:SI N s) {id:Nat} (hid:id<s.fates.length):SI N (zfc s id):=by
 obtain ⟨r,-,-,-⟩:=zkh s id;have hw:=zdf h.cfg;have hl:=h.nextle;have hw2:=h.waits;have hf:=h.few;have hc:=h.cum;have hn:=h.next;obtain ⟨e1,e2,e3⟩:=ymi id s.queue {s with fates:=s.fates.set id 3} (fun m hm=>by have:=(h.queue m hm).few zz0;omega) zz83 zz83 h.next h.nums;refine ⟨by rw [r.config];exact h.cfg,fun i x hx=>?_,?_,by rw [r.config,r.cum];exact h.cum,?_,by rw [r.paths,r.config];exact h.npaths,by rw [r.had,r.config];exact h.nhad,by rw [r.mids,r.config];exact h.nmids,?_,fun m hm=>?_,fun x hx=>?_,fun i p hp=>?_,by rw [r.fates];exact h.many,h.few⟩
 . rw [zuc,zy17] at hx
   cases hy:(s.queue.foldl (zfb id) {s with fates:=s.fates.set id 3}).out[i]? with
   | none=>rw [hy] at hx;cases hx
   | some y =>
    rw [hy] at hx;cases hx;rw [r.cum,show (Sco.zgr id y).number=y.number by unfold Sco.zgr;split<;>rfl];exact e2 i y hy
 . rw [yfa,zuc,r.cum,zy2];exact e1
 . rw [yfa,zrj,r.config,r.fates]
   have:=h.owes;dsimp only at e3;omega
 . rw [zrj,r.config]
   have:=zy27 (fun m:zak=>decide (m.id≠(id:Int))) s.queue;omega
 . rw [zrj] at hm
   obtain ⟨hm1,hm2⟩:=zy136.1 hm;have hm2:m.id≠id:=zy25 hm2;have q:=h.queue m hm1;have q0:=q.id0;rw [r.config,znk];exact ⟨q.id0,by rw [zy26];exact q.id1,by rw [zy91 (by omega)];exact q.fate,q.st0,q.st1,q.len1,q.len2,q.parts,q.sent,q.left⟩
 . rw [zuc] at hx
   obtain ⟨y,hy,rfl⟩:=zy37.1 hx;have hp:=h.npaths;have:=yto (np:=s.paths.length) (nf:=s.fates.length) id zz0 ⟨by omega,by omega⟩ s.queue {s with fates:=s.fates.set id 3} h.out y hy;rw [r.paths,r.fates];unfold Sco.zgr;split
   . exact ⟨this.path0,this.path1,this.id0,this.id1,this.zas,this.zbr,this.data⟩
   . exact this
 . exact yju hp
theorem ytr {N:Nat} {s:zag} (h:SI N s) {m:zak} (hm:0<=m.id/\m.id<s.fates.length):SI N (zkx s m)/\(zkx s m).fates.length=s.fates.length:=by
 unfold zkx;exact yy129
theorem yts {N:Nat} {s:zag} (h:SI N s) {m:zbo} (hm:0<=m.id/\m.id<s.fates.length):SI N (zhd s m)/\(zhd s m).fates.length=s.fates.length:=by
 unfold zhd;exact yy129
theorem zua {N:Nat}:∀ (q:List zak) (s:zag),SI N s->(∀ m∈q,0<=m.id/\m.id<s.fates.length)->SI N (q.foldl zkx s)/\(q.foldl zkx s).fates.length=s.fates.length
 | [],s,h,_=>⟨h,rfl⟩
 | m::q,s,h,hq=>by
  obtain ⟨a,b⟩:=ytr h (hq m zz5);obtain ⟨c,d⟩:=zua q (zkx s m) a fun x hx=>by rw [b];exact hq x zz92
  exact ⟨c,d.trans b⟩
theorem ymr {N:Nat}:∀ (q:List zbo) (s:zag),SI N s->(∀ m∈q,0<=m.id/\m.id<s.fates.length)->SI N (q.foldl zhd s)/\(q.foldl zhd s).fates.length=s.fates.length
 | [],s,h,_=>⟨h,rfl⟩
 | m::q,s,h,hq=>by
  obtain ⟨a,b⟩:=yts h (hq m zz5);obtain ⟨c,d⟩:=ymr q (zhd s m) a fun x hx=>by rw [b];exact hq x zz92
  exact ⟨c,d.trans b⟩
theorem zvg {N:Nat} {s:zag} (h:SI N s):SI N (expire s)/\(expire s).fates.length=s.fates.length:=by
 obtain ⟨a,b⟩:=zua s.queue s h fun m hm=>⟨(h.queue m hm).id0,(h.queue m hm).id1⟩
 obtain ⟨c,d⟩:=ymr (s.queue.foldl zkx s).out _ a fun x hx=>⟨(a.out x hx).id0,(a.out x hx).id1⟩
 exact ⟨c,d.trans b⟩
end Snd
namespace Snd
open Ser
theorem zfo {α:Type} (l:List α) (k:Nat) (f:α->α):(setAt l k f).length=l.length:=by
 unfold setAt;split<;>simp
theorem zwu {α:Type} {l:List α} {k:Nat} {f:α->α} {i:Nat} {y:α} (h:(setAt l k f)[i]?=some y):(i≠k/\l[i]?=some y)\/(i=k/\∃ x,l[k]?=some x/\y=f x):=by
 unfold setAt at h;split at h
 . rename_i hn
   by_cases e:i=k
   . subst e;rw [hn] at h;cases h
   . exact .inl ⟨e,h⟩
 . rename_i x hx
   by_cases e:i=k
   . subst e
     have hk:=(zy8.1 hx).1;rw [zy41 hk] at h;cases h;exact .inr ⟨rfl,x,hx,rfl⟩
   . rw [zy91 (fun h=>e h.symm)] at h;exact .inl ⟨e,h⟩
theorem zri (p:Int) (x:zbo) (l:List zbo):Sco.fl p (x::l)=Sco.fl p [x]+Sco.fl p l:=by
 rw [show x::l=[x]++l from rfl,Sco.ymx]
theorem xck (p:Int):∀ {l:List zbo} {i:Nat} {x:zbo},l[i]?=some x->∀ y,Sco.fl p (l.set i y)+Sco.fl p [x]=Sco.fl p l+Sco.fl p [y]
 | [],i,x,h,y=>by simp at h
 | z::l,0,x,h,y=>by
  simp only [List.getElem?_cons_zero,Option.some.injEq] at h;subst h;rw [List.set_cons_zero,zri,zri p z l];omega
 | z::l,i+1,x,h,y=>by
  simp only [zy80] at h;have:=xck p h y;rw [zy139,zri,zri p z l];omega
section
variable {N:Nat} {s:zag}
theorem SI.side (h:SI N s) {ps:List Path} {k:Int} {r:Int} {f:Bool} {z:Int} (hl:ps.length=s.paths.length) (hf:∀ (i:Nat) p,ps[i]?=some p->p.zba=Sco.fl i s.out) :
 SI N {s with paths:=ps,clock:=k,room:=r,forward:=f,recover:=z} :=
 ⟨h.cfg,h.nums,h.next,h.cum,h.owes,by show (ps.length:Int)=_;rw [hl];exact h.npaths,h.nhad,h.nmids,h.waits,h.queue,fun x hx=>by show XI ps.length _ x;rw [hl];exact h.out x hx,hf,h.many,h.few⟩
theorem choose_lt' (h:SI N s):choose s<s.paths.length:=(zdn h.pf.some).2
theorem zik {o:List (List Chunk)} (h:SI N s):SI N (forward ⟨s,o⟩).s:=by
 unfold forward;split
 . exact h
 . refine h.side (zfo _ _ _) fun i p hp=>?_
   rcases zwu hp with ⟨-,hp⟩ | ⟨rfl,q,hq,rfl⟩
   . exact h.zba i p hp
   . rw [<- h.zba _ q hq]
     unfold zcs;split<;>rfl
theorem yua {p:zew} (h:SI N p.s) {i path:Nat} {x:zbo} (hx:p.s.out[i]?=some x) (hst:x.state≠1) (hp:path<p.s.paths.length):SI N (fly p i path).s:=by
 obtain ⟨s,o⟩:=p;dsimp only at h hx hp;have hxm:=zy20 hx;have hxi:=h.out x hxm;have hil:=(zy8.1 hx).1;have hw:=zdf h.cfg;have hnp:=h.npaths;have htot:=h.total;have hfew:=h.few;have h0:∀ q:Int,Sco.fl q [x]=0:=fun q=>by rw [Sco.zvi,zy0 (fun h=>hst h.1)]
 unfold fly;simp only [hx];refine ⟨h.cfg,fun j y hy=>?_,?_,h.cum,h.owes,?_,h.nhad,h.nmids,h.waits,h.queue,fun y hy=>?_,fun j q hq=>?_,h.many,h.few⟩
 . have hy:(s.out.set i (zsz x path))[j]?=some y:=hy
   by_cases e:i=j
   . subst e
     rw [zy41 hil] at hy;cases hy;exact h.nums i x hx
   . rw [zy91 e] at hy;exact h.nums j y hy
 . show s.next=s.cum+1+((s.out.set i _).length:Int)
   rw [zy26];exact h.next
 . show ((setAt s.paths path _).length:Int)=_
   rw [zfo];exact h.npaths
 . have hy:y∈s.out.set i (zsz x path):=hy
   show XI (setAt s.paths path _).length _ y;rw [zfo];rcases zy57 hy with hy | rfl
   . exact h.out y hy
   . exact ⟨by show (0:Int)<=path;omega,by show (path:Int)<s.paths.length;omega,hxi.id0,hxi.id1,hxi.zas,hxi.zbr,hxi.data⟩
 . show q.zba=(Sco.fl j (s.out.set i (zsz x path)):Nat)
   have e1:=xck (j:Int) hx (zsz x path);rw [h0] at e1;have e2:Sco.fl (j:Int) [zsz x path]=if path=j then x.chunk.data.length else 0:=by
    rw [Sco.zvi];by_cases e:path=j
    . rw [zy1 e,zy1 ⟨rfl,by show (path:Int)=j;omega⟩];rfl
    . rw [zy0 e,zy0 (by rintro ⟨-,h⟩;have h:(path:Int)=j:=h;omega)]
   rcases zwu hq with ⟨ne,hq⟩ | ⟨rfl,w,hw2,rfl⟩
   . rw [h.zba j q hq]
     rw [zy0 (fun h=>ne h.symm)] at e2;omega
   . rw [zy1 rfl] at e2
     have e3:=h.zba j w hw2;have e4:=Sco.yzj (j:Int) s.out;have e5:=hxi.data;show W (w.zba+x.chunk.data.length)=_;rw [e3,zbt (by omega) (by omega)];omega
theorem zph {p:zew} (h:SI N p.s) {path:Nat} (hp:path<p.s.paths.length) (i:Nat):SI N (zcz path p i).s/\(zcz path p i).s.paths.length=p.s.paths.length:=by
 unfold zcz;split
 . exact ⟨h,rfl⟩
 . rename_i x hx
   split
   . rename_i c
     refine ⟨yua h hx (by rw [c.1];decide) hp,?_⟩;unfold fly;simp only [hx];exact zfo _ _ _
   . exact ⟨h,rfl⟩
theorem ydx {path:Nat}:∀ (L:List Nat) {p:zew},SI N p.s->path<p.s.paths.length->SI N (L.foldl (zcz path) p).s
 | [],_,h,_=>h
 | i::L,p,h,hp=>by
  obtain ⟨a,b⟩:=zph h hp i;exact ydx L a (by rw [b];exact hp)
theorem ztw {p:zew} (h:SI N p.s):SI N (again p).s:=ydx _ h (choose_lt' h)
theorem xbc {q:List zak} {k:Nat} {m y:zak} (h:q[k]?=some m):zqg (q.set k y)=zqg q+m.parts-y.parts:=by
 obtain ⟨a,b,rfl,rfl⟩:∃ a b,q=a++m::b/\a.length=k:=⟨q.take k,q.drop (k+1),by
  have hk:=(zy8.1 h)
  obtain ⟨hk,e⟩:=hk;rw [<- e,zy106,zy32],by have:=(zy8.1 h).1;simp;omega⟩
 rw [zy152 _ _ (zy24 _),zy95,List.set_cons_zero,znm,znm,zmr,zmr];omega
theorem yqz {q:List zak} {k:Nat} {m:zak} (h:q[k]?=some m):zqg (q.eraseIdx k)=zqg q+m.parts-61:=by
 obtain ⟨a,b,rfl,rfl⟩:∃ a b,q=a++m::b/\a.length=k:=⟨q.take k,q.drop (k+1),by
  have hk:=(zy8.1 h)
  obtain ⟨hk,e⟩:=hk;rw [<- e,zy106,zy32],by have:=(zy8.1 h).1;simp;omega⟩
 rw [List.eraseIdx_append_of_length_le (zy24 _),zy95,List.eraseIdx_cons_zero,znm,znm,zmr];omega
theorem yqr (s:zag) (m:zak):(zdt s m).length=s.mids.length:=by
 unfold zdt;split
 . exact zfo _ _ _
 . rfl
theorem yuj (sc:zhv) (m:zak) (n:Int) (o:Bool):(Sch.had sc m n o).had.length=sc.had.length:=by
 unfold Sch.had;dsimp only;split<;>simp
def zxw (s:zag) (k:Nat) (m:zak):zag :=
 {s with mids:=zdt s m,sched:=Sch.had s.sched {m with mid:=zdg s m} (many s m) (decide (m.sent+many s m=m.message.data.length)),out:=s.out++[⟨s.next,m.id,0,0,0,0,m.came,m.message.life,m.message.tries,cut s m (many s m)⟩],next:=W (s.next+1),queue:=if decide (m.sent+many s m=m.message.data.length) then s.queue.eraseIdx k else s.queue.set k {m with mid:=zdg s m,sent:=m.sent+many s m,parts:=W (m.parts+1)}}
theorem zgc (s:zag) (o:List (List Chunk)) (k:Nat) (m:zak):zly ⟨s,o⟩ k m (many s m)=fly ⟨zxw s k m,o⟩ s.out.length (choose s):=rfl
theorem ytl (h:SI N s) {k:Nat} {m:zak} (hm:s.queue[k]?=some m):SI N (zxw s k m):=by
 have hw:=zdf h.cfg;have q:=h.queue m (zy20 hm);have hfew:=q.few zz0;have hN:=h.few;have hnl:=h.nextle;have hcum:=h.cum;have hnx:=h.next;have hp:=h.npaths;have q1:=q.parts;have q2:=q.sent;have q3:=q.left;have q4:=q.len2;have q5:0<=m.parts*s.config.part:=Int.mul_nonneg q1 zz0;obtain ⟨n1,n2,n3⟩:=zrq (s:=s) (m:=m) zz0 zz0 zz0 q3 zz0;have n4:many s m<=s.config.part:=by unfold many;split<;>omega
 have hW:W (s.next+1)=s.next+1:=zbt zz0 zz0;have hWp:W (m.parts+1)=m.parts+1:=zbt zz0 zz0;refine ⟨h.cfg,fun j y hy=>?_,?_,h.cum,?_,h.npaths,?_,?_,?_,fun y hy=>?_,fun y hy=>?_,fun j p hp=>?_,h.many,h.few⟩
 . have hy:(s.out++[_])[j]?=some y:=hy
   rcases zy79 j s.out.length with hj | hj
   . rw [zy46 hj] at hy;exact h.nums j y hy
   . rw [zy44 hj] at hy
     have e:j-s.out.length=0:=by
      rcases zy141 (j-s.out.length) with h | h
      . exact h
      . rw [zy51 (by simp;omega)] at hy;cases hy
     rw [e] at hy;cases hy;show s.next=s.cum+1+j;omega
 . show W (s.next+1)=s.cum+1+((s.out++[_]).length:Int)
   rw [hW,zy10,zy69];push_cast;omega
 . have:=h.owes
   show W (s.next+1)+zqg (if decide (m.sent+many s m=m.message.data.length) then s.queue.eraseIdx k else s.queue.set k {m with mid:=zdg s m,sent:=m.sent+many s m,parts:=W (m.parts+1)})<=s.config.first+61*(s.fates.length:Int);rw [hW];split
   . rw [yqz hm];omega
   . rw [xbc hm];dsimp only;rw [hWp];omega
 . show ((Sch.had s.sched _ _ _).had.length:Int)=_
   rw [yuj];exact h.nhad
 . show ((zdt s m).length:Int)=_
   rw [yqr];exact h.nmids
 . show ((if decide (m.sent+many s m=m.message.data.length) then s.queue.eraseIdx k else s.queue.set k {m with mid:=zdg s m,sent:=m.sent+many s m,parts:=W (m.parts+1)}).length:Int)<=s.config.waiting
   have:=h.waits;split
   . rw [zy73];split<;>omega
   . rw [zy26];exact this
 . have hy:y∈(if decide (m.sent+many s m=m.message.data.length) then s.queue.eraseIdx k else s.queue.set k {m with mid:=zdg s m,sent:=m.sent+many s m,parts:=W (m.parts+1)}):=hy
   show QI s.config s.fates y;split at hy
   . exact h.queue y (zy63 hy)
   . rename_i c
     have c:m.sent+many s m≠m.message.data.length:=by simpa using c
     rcases zy57 hy with hy | rfl
     . exact h.queue y hy
     . have e:many s m=s.config.part:=by
        unfold many at c ⊢;split at c
        . omega
        . rename_i c2;rw [zy0 c2]
       refine ⟨q.id0,q.id1,q.fate,q.st0,q.st1,q.len1,q.len2,?_,?_,?_⟩
       . show 0<=W (m.parts+1);omega
       . show m.sent+many s m=W (m.parts+1)*s.config.part
         rw [hWp,e,q2,Int.add_mul,Int.one_mul]
       . show m.sent+many s m<m.message.data.length;omega
 . have hy:y∈s.out++[_]:=hy
   rcases zy21.1 hy with hy | hy
   . exact h.out y hy
   . rw [zy23] at hy;subst hy
     refine ⟨zy70 _,by show (0:Int)<s.paths.length;omega,q.id0,q.id1,rfl,rfl,?_⟩;show ((m.message.data.drop m.sent.toNat).take (many s m).toNat).length<=16;rw [zy67];omega
 . show p.zba=(Sco.fl j (s.out++[_]):Nat)
   rw [Sco.ymx,h.zba j p hp,Sco.zvi,zy0 (by rintro ⟨h,-⟩;cases h)];rfl
theorem zvz {p q:zew} (h:SI N p.s) (hq:next p=some q):SI N q.s:=by
 obtain ⟨s,o⟩:=p;unfold next at hq;dsimp only at hq h;split at hq
 . cases hq
 rename_i c;cases hm:s.queue[(zec s).toNat]? with
 | none=>rw [hm] at hq;cases hq
 | some m =>
  rw [hm] at hq;dsimp only at hq;split at hq
  . cases hq
  . cases hq
    rw [zgc];have h2:=ytl h hm;exact yua (p:=⟨zxw s (zec s).toNat m,o⟩) h2 (x:=⟨s.next,m.id,0,0,0,0,m.came,m.message.life,m.message.tries,cut s m (many s m)⟩) (by show (s.out++[_])[s.out.length]?=_;simp) (by intro h;cases h) (choose_lt' h)
theorem yoe:∀ (n:Nat) {p:zew},SI N p.s->SI N (zfl n p).s
 | 0,_,h=>h
 | n+1,p,h=>by
  unfold zfl;split
  . exact h
  . rename_i q hq;exact yoe n (zvz h hq)
theorem xby (h:SI N s):SI N (ydp s):=by
 refine h.side zz5 fun i p hp=>?_
 rw [zy17] at hp;cases hq:s.paths[i]? with
 | none=>rw [hq] at hp;cases hp
 | some q =>
  rw [hq] at hp;cases hp;rw [<- h.zba i q hq];unfold zfy;split
  . rfl
  . split<;>rfl
theorem xex (h:SI N s):SI N (zjp s).1:=xby (yoe 61 (ztw (zik (zvg h).1)))
theorem zvh {n:Int}:∀ {l:List zbo} {cum:Int},(∀ (i:Nat) x,l[i]?=some x->x.number=cum+1+i)->cum<=n->l.filter (fun x=>decide (x.number>n))=l.drop (n-cum).toNat
 | [],_,_,_=>by simp
 | x::l,cum,h,hn=>by
  have h0:=h 0 x rfl;have h1:∀ (i:Nat) y,l[i]?=some y->y.number=cum+1+1+i:=fun i y hy=>by
   have:=h (i+1) y (by rw [zy80];exact hy);push_cast at this;omega
  by_cases c:cum=n
  . subst c
    have:∀ y∈x::l,y.number>cum:=fun y hy=>by
     obtain ⟨i,hi⟩:=List.getElem?_of_mem hy;have:=h i y hi;omega
    rw [zy92.2 fun y hy=>zy9 (this y hy)];simp
  . rw [zy49,zy0 (by simp at h0 ⊢;omega),zvh h1 (by omega)]
    have:(n-cum).toNat=(n-(cum+1)).toNat+1:=by omega
    rw [this,List.drop_succ_cons]
theorem xfe {l:List zbo} {cum:Int} {c:Chunk} {np:Int} (h:∀ (i:Nat) x,l[i]?=some x->x.number=cum+1+i) (hk:¬ (zde cum c.tag<cum\/zde cum c.tag>cum+l.length)) :
 ∃ g:zbo->zbo,(∀ x,(g x).number=x.number/\(g x).path=x.path/\(g x).id=x.id/\(g x).chunk=x.chunk)/\(Sco.zin l cum c np).1=(l.drop (zde cum c.tag-cum).toNat).map g:=by
 refine ⟨fun x=>Sco.age (Sco.ztc c (zde cum c.tag) l) (Sco.zbp c (zde cum c.tag) x),fun x=>?_,?_⟩
 . have e1:∀ (k:Int) y,(Sco.age k y).number=y.number/\(Sco.age k y).path=y.path/\(Sco.age k y).id=y.id/\(Sco.age k y).chunk=y.chunk:=fun k y=>by unfold Sco.age;(repeat' split)<;>exact ⟨rfl,rfl,rfl,rfl⟩
   have e2:∀ k y,(Sco.zbp c k y).number=y.number/\(Sco.zbp c k y).path=y.path/\(Sco.zbp c k y).id=y.id/\(Sco.zbp c k y).chunk=y.chunk:=fun k y=>by unfold Sco.zbp;split<;>exact ⟨rfl,rfl,rfl,rfl⟩
   obtain ⟨a1,a2,a3,a4⟩:=e1 (Sco.ztc c (zde cum c.tag) l) (Sco.zbp c (zde cum c.tag) x);obtain ⟨b1,b2,b3,b4⟩:=e2 (zde cum c.tag) x;exact ⟨a1.trans b1,a2.trans b2,a3.trans b3,a4.trans b4⟩
 . rw [Sco.zin,zy0 hk]
   dsimp only;rw [Sco.left,zvh h (by omega),zy113];rfl
theorem yfi (h:SI N s) {c:Chunk} (hk:¬ (zde s.cum c.tag<s.cum\/zde s.cum c.tag>s.cum+s.out.length)):SI N (zoe s c (Sco.zin s.out s.cum c s.paths.length)):=by
 obtain ⟨g,hg,e⟩:=xfe (np:=s.paths.length) h.nums hk;have e2:(Sco.zin s.out s.cum c s.paths.length).2.1=zde s.cum c.tag:=by rw [Sco.zin,zy0 hk]
 have hl:(zoe s c (Sco.zin s.out s.cum c s.paths.length)).paths.length=s.paths.length:=by
  show (List.mapIdx _ (List.mapIdx _ _)).length=_;simp
 have ho:(zoe s c (Sco.zin s.out s.cum c s.paths.length)).out=(s.out.drop (zde s.cum c.tag-s.cum).toNat).map g:=e;have hc:(zoe s c (Sco.zin s.out s.cum c s.paths.length)).cum=zde s.cum c.tag:=e2;have hn:=h.next;have hcu:=h.cum;refine ⟨h.cfg,fun i x hx=>?_,?_,?_,h.owes,by rw [hl];exact h.npaths,h.nhad,h.nmids,h.waits,h.queue,fun x hx=>?_,fun i p hp=>?_,h.many,h.few⟩
 case refine_5=>have:=zyq (s:={s with out:=(Sco.zin s.out s.cum c s.paths.length).1,cum:=(Sco.zin s.out s.cum c s.paths.length).2.1,room:=c.room,paths:=zkd s.paths s.config.part (decide ((Sco.zin s.out s.cum c s.paths.length).2.1>s.cum)) (Sco.zin s.out s.cum c s.paths.length).2.2.1}) hp;exact this
 . rw [ho,zy17,zy53] at hx
   cases hy:s.out[(zde s.cum c.tag-s.cum).toNat+i]? with
   | none=>rw [hy] at hx;cases hx
   | some y =>
    rw [hy] at hx;cases hx;rw [(hg y).1,h.nums _ y hy,hc];push_cast;omega
 . rw [ho,hc,zy2,zy38]
   show s.next=_;omega
 . rw [hc];show s.config.first-1<=_;omega
 . rw [ho] at hx
   obtain ⟨y,hy,rfl⟩:=zy37.1 hx;have q:=h.out y (zy65 hy);obtain ⟨g1,g2,g3,g4⟩:=hg y;rw [hl];exact yy108
theorem yfj (h:SI N s) {part:Int} {L:List Int}:SI N (zjk part s L):=by
 unfold zjk;split
 . exact h
 . split
   . refine h.side (zfo _ _ _) fun i p hp=>?_
     rcases zwu hp with ⟨-,hp⟩ | ⟨rfl,q,hq,rfl⟩
     . exact h.zba i p hp
     . rw [<- h.zba _ q hq];rfl
   . exact h
theorem yfk (h:SI N s) {b:Bool}:SI N (zgp b s):=by
 unfold zgp;split
 . exact h.side rfl h.zba
 . exact h
theorem yxd (h:SI N s):SI N (settle s):=by
 have hl:(settle s).fates.length=s.fates.length:=by show (List.mapIdx _ _).length=_;simp
 refine ⟨h.cfg,h.nums,h.next,h.cum,by rw [hl];exact h.owes,h.npaths,h.nhad,h.nmids,h.waits,fun m hm=>?_,fun x hx=>by rw [hl];exact h.out x hx,h.zba,by rw [hl];exact h.many,h.few⟩;have hm:m∈s.queue:=hm;have q:=h.queue m hm;have q0:=q.id0;refine ⟨q.id0,by rw [hl];exact q.id1,?_,q.st0,q.st1,q.len1,q.len2,q.parts,q.sent,q.left⟩;show (s.fates.mapIdx fun id f=>settled s id f)[m.id.toNat]?=some 1;rw [zy90,q.fate];show some (settled s m.id.toNat 1)=some 1;rw [settled,zy0];rintro ⟨-,h2,-⟩;rw [zy146] at h2;exact h2 m hm (zy9 zz0)
theorem xea (h:SI N s) (c:Chunk):SI N (yfg s c):=by
 unfold yfg;split
 . exact h
 split
 . exact h
 . rename_i c1 c2
   rw [zpu];exact yxd (yfk (yfj (yfi h c2)))
theorem ytw (i j:Nat):∀ l:List zbo,Sco.fl j (l.map (Sco.late i))=if i=j then 0 else Sco.fl j l
 | []=>by simp [Sco.fl]
 | x::l=>by
  rw [zy29,zri,ytw i j l,zri (j:Int) x l,Sco.zvi,Sco.zvi];unfold Sco.late;by_cases c:x.state=1/\x.path=i
  . rw [zy1 c,zy0 (by rintro ⟨h,-⟩;cases h)]
    by_cases e:i=j
    . rw [zy1 e,zy1 e]
    . rw [zy0 e,zy0 e,zy0 (by rintro ⟨-,h⟩;have:=c.2;omega)]
  . rw [zy0 c]
    by_cases e:i=j
    . subst e;rw [zy1 rfl,zy1 rfl,zy0 c]
    . rw [zy0 e,zy0 e]
theorem xae (h:SI N s) (part:Int) (i:Nat):SI N (zlc part s i):=by
 unfold zlc;split
 . exact h
 rename_i p hp;split
 . exact h
 have hil:=(zy8.1 hp).1;have h2:SI N {s with out:=s.out.map (Sco.late i),paths:=s.paths.set i (Paths.late p part)}:=by
  have e:∀ x,(Sco.late i x).number=x.number/\(Sco.late i x).path=x.path/\(Sco.late i x).id=x.id/\(Sco.late i x).chunk=x.chunk:=fun x=>by unfold Sco.late;split<;>exact ⟨rfl,rfl,rfl,rfl⟩
  refine ⟨h.cfg,fun j y hy=>?_,?_,h.cum,h.owes,?_,h.nhad,h.nmids,h.waits,h.queue,fun y hy=>?_,fun j q hq=>?_,h.many,h.few⟩
  . have hy:(s.out.map (Sco.late i))[j]?=some y:=hy
    rw [zy17] at hy;cases hz:s.out[j]? with
    | none=>rw [hz] at hy;cases hy
    | some z=>rw [hz] at hy;cases hy;rw [(e z).1];exact h.nums j z hz
  . show s.next=s.cum+1+((s.out.map (Sco.late i)).length:Int)
    rw [zy2];exact h.next
  . show ((s.paths.set i _).length:Int)=_
    rw [zy26];exact h.npaths
  . have hy:y∈s.out.map (Sco.late i):=hy
    obtain ⟨z,hz,rfl⟩:=zy37.1 hy;have q:=h.out z hz;obtain ⟨g1,g2,g3,g4⟩:=e z;show XI (s.paths.set i _).length _ _;rw [zy26];exact yy108
  . have hq:(s.paths.set i (Paths.late p part))[j]?=some q:=hq
    show q.zba=(Sco.fl j (s.out.map (Sco.late i)):Nat);rw [ytw];by_cases e:i=j
    . subst e
      rw [zy41 hil] at hq;cases hq;rw [zy1 rfl];rfl
    . rw [zy91 e] at hq
      rw [zy0 e];exact h.zba j q hq
 dsimp only;split
 . exact h2.side rfl h2.zba
 . exact h2
theorem ynw (part:Int):∀ (L:List Nat) {s:zag},SI N s->SI N (L.foldl (zlc part) s)
 | [],_,h=>h
 | i::L,_,h=>ynw part L (xae h part i)
theorem zxk (h:SI N s):SI N (tick s):=ynw _ _ (h.side rfl h.zba)
end
end Snd
namespace Snd
open Ser
section
variable {L:List Message} {s:zag}
end
theorem ymg (s:zag) (id:Nat):(zfc s id).config=s.config:=(zkh s id).1.config
theorem yel:∀ (q:List zak) (s:zag),(∀ m∈q,0<=m.id)->(q.foldl zkx s).config=s.config
 | [],_,_=>rfl
 | m::q,s,h=>by
  rw [zy50,yel q _ fun x hx=>h x (by simp [hx])];unfold zkx;split
  . have:=h m zz5
    rw [show m.id=((m.id.toNat:Nat):Int) by omega];exact ymg s _
  . rfl
theorem yem:∀ (q:List zbo) (s:zag),(∀ m∈q,0<=m.id)->(q.foldl zhd s).config=s.config
 | [],_,_=>rfl
 | m::q,s,h=>by
  rw [zy50,yem q _ fun x hx=>h x (by simp [hx])];unfold zhd;split
  . have:=h m zz5
    rw [show m.id=((m.id.toNat:Nat):Int) by omega];exact ymg s _
  . rfl
theorem yqc {N:Nat} {s:zag} (h:SI N s):(expire s).config=s.config:=by
 obtain ⟨h2,-⟩:=zua s.queue s h fun m hm=>⟨(h.queue m hm).id0,(h.queue m hm).id1⟩
 unfold expire;rw [yem _ _ fun x hx=>(h2.out x hx).id0,yel _ _ fun m hm=>(h.queue m hm).id0]
theorem ytx (p:zew) (i c:Nat):(fly p i c).s.config=p.s.config:=by unfold fly;split<;>rfl
theorem zyh {c:Nat}:∀ (l:List Nat) (p:zew),(l.foldl (zcz c) p).s.config=p.s.config
 | [],_=>rfl
 | i::l,p=>by
  rw [zy50,zyh l];unfold zcz;split
  . rfl
  . split
    . exact ytx _ _ _
    . rfl
theorem xal {p q:zew} (h:next p=some q):q.s.config=p.s.config:=by
 obtain ⟨s,o⟩:=p;unfold next at h;dsimp only at h;split at h
 . cases h
 cases hm:s.queue[(zec s).toNat]? with
 | none=>rw [hm] at h;cases h
 | some m =>
  rw [hm] at h;dsimp only at h;split at h
  . cases h
  . cases h
    rw [zgc,ytx];rfl
theorem ygf:∀ (n:Nat) (p:zew),(zfl n p).s.config=p.s.config
 | 0,_=>rfl
 | n+1,p=>by
  unfold zfl;split
  . rfl
  . rename_i q hq;rw [ygf n q,xal hq]
theorem yjo (p:zew):(forward p).s.config=p.s.config:=by unfold forward;split<;>rfl
theorem xbg {N:Nat} {s:zag} (h:SI N s):(zjp s).1.config=s.config:=by
 show (zmt s).s.config=_;unfold zmt;rw [ygf];unfold again;rw [zyh,yjo];exact yqc h
theorem yin {l:List Step} (h:zig (l.map Step.row)<=1048576):(∀ x∈l,x.message.data.length<=1048576)/\l.length<=1048576:=by
 have h1:∀ x:Step,x.message.data.length+1<=zfz x.row:=fun x=>by
  have h1:=zug (f:=zco) (fun x=>by simp [zco,zfz,PV.bulk]) x.message.data;simp only [Step.row,zfz,PV.bulk];omega
 refine ⟨fun x hx=>?_,?_⟩
 . have h2:=ynz (f:=Step.row) hx
   have:=h1 x;omega
 . have:=zug (f:=Step.row) (fun x=>by have:=h1 x;omega) l
   omega
end Snd
end Go.HL
