/- Walks, contracts and laws of the law's functions: part 4. No condition. -/
import Derived.Test.YticmofoeecjnhaaGreatQBc
open Go.Proofs
set_option maxHeartbeats 32000000
set_option maxRecDepth 100000
set_option linter.unusedSimpArgs false
theorem yy7 {P:Prop} (h:P:=by
 cases d3:old u.clock x.came x.life with
 | true =>
  (conv=>whnf);refine sD ?_
  repeat refine sG ?_
  (refine zac [] [(1000,1000),(1001,900),(1002,901),(1003,902),(1004,903),(1005,904),(1006,905),(1007,1007)] [(0,910),(1,911),(2,912),(3,913),(4,914),(5,915)] ?_;(conv=>whnf);refine dG pg ?_)
  refine sF ?_;refine hQ _ _ ?_;conv=>whnf
  rw [zie,zy1 (by rw [hdue];simp [d1,d2,d3])] at zda kn kr;exact ⟨⟨((A++[x],B),zfn u x.id),zar k1,zda,kn,k4.trans kr⟩,(zcx (pK8 ((900,some 910)::(901,some 911)::(902,some 912)::(903,some 913)::(904,some 914)::(905,some 915)::[(34,some 34)]))),by simp⟩
 | false =>
 (conv=>whnf);by_cases d4:x.state=3
 case neg =>
  refine zag ?_ ?_
  . simpa using d4
  (conv=>whnf);refine sD ?_
  repeat refine sG ?_
  refine sF ?_;refine hQ _ _ ?_;conv=>whnf
  rw [zie,zy0 (by rw [hdue];simp [d1,d2,d3,d4])] at zda;exact ⟨⟨((A++[x],B),u),zar k1,zda,k3,k4⟩,(zcx (pK8 (pJ6 [(34,some 34)]))),by simp⟩
 refine zai ?_ ?_
 . simpa using d4
 (conv=>whnf);by_cases d5:x.tries>0
 case neg =>
  refine zag ?_ ?_
  . simpa using d5
  (conv=>whnf);refine sD ?_
  repeat refine sG ?_
  refine sF ?_;refine hQ _ _ ?_;conv=>whnf
  rw [zie,zy0 (by rw [hdue];simp [d1,d2,d3,d4,d5])] at zda;exact ⟨⟨((A++[x],B),u),zar k1,zda,k3,k4⟩,(zcx (pK8 (pJ6 [(34,some 34)]))),by simp⟩
 refine zai ?_ ?_
 . simpa using d5
 (conv=>whnf);refine sD ?_;by_cases d6:x.times>x.tries
 case neg =>
  refine zag ?_ ?_
  . simpa using d6
  conv=>whnf
  repeat refine sG ?_
  refine sF ?_;refine hQ _ _ ?_;conv=>whnf
  rw [zie,zy0 (by rw [hdue];simp [d1,d2,d3,d4,d5,d6])] at zda;exact ⟨⟨((A++[x],B),u),zar k1,zda,k3,k4⟩,(zcx (pK8 (pJ6 [(34,some 34)]))),by simp⟩
 refine zai ?_ ?_
 . simpa using d6
 conv=>whnf
 repeat refine sG ?_
 (refine zac [] [(1000,1000),(1001,900),(1002,901),(1003,902),(1004,903),(1005,904),(1006,905),(1007,1007)] [(0,910),(1,911),(2,912),(3,913),(4,914),(5,915)] ?_;(conv=>whnf);refine dG pg ?_)
 refine sF ?_;refine hQ _ _ ?_;conv=>whnf
 rw [zie,zy1 (by rw [hdue];simp [d1,d2,d3,d4,d5,d6])] at zda kn kr;exact ⟨⟨((A++[x],B),zfn u x.id),zar k1,zda,kn,k4.trans kr⟩,(zcx (pK8 ((900,some 910)::(901,some 911)::(902,some 912)::(903,some 913)::(904,some 914)::(905,some 915)::[(34,some 34)]))),by simp⟩):P:=h
theorem yy11 {P:Prop} (h:P:=by
 exact ⟨⟨((A++[x],B),u),zar k1,zda,k3,k4⟩,(zcx (pK8 (pJ6 [(34,some 34)]))),by simp⟩):P:=h
theorem yy20 {P:Prop} (h:P:=by
 rw [<- hid] at pg;(conv=>whnf)
 repeat refine sG ?_
 (refine zac [] [(1000,1000),(1001,900),(1002,901),(1003,902),(1004,903),(1005,904),(1006,905),(1007,1007)] [(0,910),(1,911),(2,912),(3,913),(4,914),(5,915)] ?_;(conv=>whnf);refine dG pg ?_)
 refine sF ?_;refine hQ _ _ ?_;conv=>whnf
 exact ⟨⟨((A++[m],B),zfn t m.id),zar k1,zda,kn,k4.trans kr⟩,(zcx (pK8 ((900,some 910)::(901,some 911)::(902,some 912)::(903,some 913)::(904,some 914)::(905,some 915)::[(11,some 11)]))),by simp⟩):P:=h
theorem yy51 {P:Prop} (h:P:=by
 have hz:=zcw k1;rw [zy7] at k1;rw [<- k1] at k2;refine sN ?_;refine hQ _ _ ?_;conv=>whnf
 have hu:u=E:=by rw [<- k2,hE2]
 rw [<- hu]
 (exact zbz (pK8 [(0,some 900),(1,some 901),(2,some 902),(3,some 903),(4,some 904),(5,some 905)]))):P:=h
theorem yy62 {P:Prop} (h:P:=by
 rw [zlb,zy0 (by rw [ho];decide)] at zda;(conv=>whnf)
 repeat refine sG ?_
 refine sF ?_;refine hQ _ _ ?_;conv=>whnf
 exact ⟨⟨((A++[m],B),t),zar k1,zda,k3,k4⟩,(zcx (pK8 (pJ6 [(11,some 11)]))),by simp⟩):P:=h
theorem yy85 {P:Prop} (h:P:=by
 refine zag ?_ ?_
 . simp [c1]
 (conv=>whnf);refine zai ?_ ?_
 . simp [c2]
 conv=>whnf
 repeat refine sG ?_
 (exact zbz (pK8 [(0,none),(1,none)]))):P:=h
theorem yy104 {P:Prop} (h:P:=by
 refine zai ?_ ?_
 . simp [c1]
 conv=>whnf
 repeat refine sG ?_
 (exact zbz (pK8 [(0,none),(1,none)]))):P:=h
theorem yy42 {P:Prop} (h:P:=by
 refine zag ?_ ?_
 . simpa using d1
 conv=>whnf
 repeat refine sG ?_
 refine sF ?_;exact ⟨⟨(i+1,t,a',b'),by dsimp only;omega,by rw [hst,hno fun h=>d1 h.1],k3,k4,by dsimp only;omega⟩,(zbv (zhi [(900,some 900),(901,some 901)]) zz2),by dsimp only;omega⟩):P:=h
theorem yy43 {P:Prop} (h:P:=by
 refine zag ?_ ?_
 . simpa using d2
 conv=>whnf
 repeat refine sG ?_
 refine sF ?_;exact ⟨⟨(i+1,t,a',b'),by dsimp only;omega,by rw [hst,hno fun h=>d2 h.2],k3,k4,by dsimp only;omega⟩,(zbv (zhi [(900,some 900),(901,some 901)]) zz2),by dsimp only;omega⟩):P:=h
theorem yy89 {P:Prop} (h:P:=by
 have hin:i=s.out.length:=by omega
 subst hin;refine sN ?_;rw [k2] at hag;subst hag
 (exact zbz (zhi [(0,some 900),(1,some 901)]))):P:=h
theorem yy2 {P:Prop} (h:P:=by
 refine zaj hm rfl (zw ?_);refine zat (z:=m.sent+many s m) hWs (zw ?_);refine zaj hm rfl (zw ?_);refine sD ?_;have hm':(zhy s k m).queue[k]?=some {m with mid:=zcd s m}:=by show (s.queue.set k _)[k]?=_;rw [zy25 hkl]
 have hmr:(s.queue.map zaf.row)[k]?=some m.row:=by rw [zy11,hm];rfl
 (refine cL ?_;refine dL (zcv s.next) ?_)
 refine zaj hm rfl (zw ?_)
 (refine zac [] [(1000,1000),(1001,1001),(1002,1002),(1003,1003),(1004,1004),(1005,1005),(1006,1006),(1007,1007),(1008,1008)] [] ?_;(conv=>whnf);refine dG (ygd s a k m hm mf) ?_)
 (refine cL ?_;refine dL (zcv (zcd s m)) ?_)
 refine zaj hm' rfl (zw ?_);refine zaj hm' rfl (zw ?_);refine zaj hm' rfl (zw ?_);refine zaj hm' rfl (zw ?_);refine zaj hm' rfl (zw ?_);refine zat (z:=m.sent+many s m) hWs (zw ?_);refine zaa (c:=0<=m.sent/\m.sent<=m.sent+many s m/\m.sent+many s m<=((m.message.data.map zdv).length:Int)) ⟨ms,by omega,by rw [zy2];omega⟩ (zw ?_);refine zjf (o':=m.sent.toNat) (n':=(many s m).toNat) rfl (show (m.sent+many s m-m.sent).toNat=(many s m).toNat by rw [show m.sent+many s m-m.sent=many s m by omega]) ?_;refine zlo (f:=zdv) (l:=m.message.data) (o:=m.sent.toNat) (n:=(many s m).toNat) zz0 ?_;(conv=>whnf)
 (refine zas [(0,150)]  ?_;(conv=>whnf);refine dO (Cl.zcs ((m.message.data.drop m.sent.toNat).take (many s m).toNat) zz3) ?_)
 refine ziq [4,10,18,24,29,33,37] ?_ ?_ ?_
 . kernel_rfl
 . refine ⟨?_,?_,?_,?_,?_,?_,?_,trivial⟩
   all_goals
    refine And.intro trivial ?_;refine And.intro trivial ?_;refine And.intro ?_ trivial;(conv=>whnf);refine And.intro ?_ ?_
    . conv=>whnf
      all_goals first | rfl | exact zaj hm rfl rfl
    refine And.intro ?_ trivial;(conv=>whnf)
    all_goals first | rfl | exact zaj hm' rfl rfl
 (conv=>whnf);refine zaj hm' rfl (zw ?_)
 (refine zas [(0,163)]  ?_;(conv=>whnf);refine dO (zjy s.sched {m with mid:=zcd s m} (many s m) (ovr s m) zz0 mf.lo mh) ?_)
 refine sD ?_;refine zaj hm' rfl (zw ?_);refine zaj hm' rfl (zw ?_);refine zaj hm' rfl (zw ?_);refine zaj hm' rfl (zw ?_);refine zaa (c:=((s.out.map zbs.row).length+1)*200<=140737488355328) zz15 (zw ?_);refine sD ?_;refine sR ?_;refine zaj hm' rfl (zw ?_);refine zat (z:=m.sent+many s m) hWs (zw ?_);refine zaj hm' rfl (zw ?_);refine zbu rfl zz42 (zw ?_);refine sR ?_;refine zbu rfl zz42 (zw ?_);refine zbm (z':=(s.out.length:Int)) ?_ ?_
 . show W ((((zhy s k m).out.map zbs.row++[_]).length:Int)-1)=_
   rw [zy6,zy2,show (zhy s k m).out=s.out from rfl,zbi (by simp only [zy5,zy13];omega) (by simp only [zy5,zy13];omega)];simp only [zy5,zy13];omega
 (conv=>whnf);refine zaa zz9 (zw ?_)
 (refine zac [] [(1000,1000),(1001,1001),(1002,163),(1003,199),(1004,1004),(1005,1005),(1006,1006),(1007,1007),(1008,1008)] [(0,920)] ?_;(conv=>whnf);refine dG (znw (s2 s k m) a s.out.length (x0 s m) w zz79 hw zz0) ?_ ⟨rfl,rfl,rfl,⟨zz1,⟨⟨rfl,_,rfl,.inl ⟨rfl,ypb⟩⟩,⟨zz1,⟨⟨rfl,_,rfl,.inl ⟨rfl,(zca (f:=zbs.row) (x:=x0 s m) rfl rfl)⟩⟩,⟨zz1,⟨zz1,⟨zz1,⟨zz1,⟨zz1,trivial⟩⟩⟩⟩⟩⟩⟩⟩⟩,⟨⟨rfl,rfl⟩,trivial⟩,rfl,rfl,rfl⟩)
 refine sD ?_;cases hov:ovr s m with
 | true =>
  refine zai ?_ ?_
  . exact hov
  conv=>whnf
  repeat refine sG ?_
  refine zbm (z':=((k+1:Nat):Int)) ?_ ?_
  . show W ((k:Int)+1)=_
    rw [zbi (by omega) (by omega)];push_cast;rfl
  conv=>whnf
  (refine zac [] [(1000,1001)] [(0,930)] ?_;(conv=>whnf);refine dG (xfs (s.queue.set k (m2 s m)) k (k+1) zz0 zz3 zz3) ?_)
  rw [zff hc0 hw rfl,zy1 hov] at hG;subst hG
  (exact zdd (pK9 [(0,some 930),(1,some 163),(2,some 199),(3,some 1004),(4,some 1005),(5,some 1006),(6,some 920)]) zz12)
 | false =>
  refine zag ?_ ?_
  . exact hov
  conv=>whnf
  repeat refine sG ?_
  rw [zff hc0 hw rfl,zy0 (by rw [hov];decide)] at hG;subst hG
  (exact zbz (pK9 [(0,some 1001),(1,some 163),(2,some 199),(3,some 1004),(4,some 1005),(5,some 1006),(6,some 920)]))):P:=h
theorem yy21 {P:Prop} (h:P:=by
 subst hG
 repeat refine sG ?_
 (exact zbz (pK9 [(0,some 1001),(1,some 1002),(2,some 1003),(3,some 1004),(4,some 1005),(5,some 1006),(6,some 1008)]))):P:=h
theorem yy0 {P:Prop} (h:P:=by
 refine zaj hm rfl (zw ?_);refine zat (z:=m.sent+many s m) hWs (zw ?_);refine zaj hm rfl (zw ?_);refine sD ?_;have hm':(zhy s k m).queue[k]?=some {m with mid:=zcd s m}:=by show (s.queue.set k _)[k]?=_;rw [zy25 hkl]
 have hmr:(s.queue.map zaf.row)[k]?=some m.row:=by rw [zy11,hm];rfl
 (refine cL ?_;refine dL (zcv s.next) ?_)
 refine zaj hm rfl (zw ?_)
 (refine zac [] [(1000,1000),(1001,1001),(1002,1002),(1003,1003),(1004,1004),(1005,1005),(1006,1006),(1007,1007),(1008,1008),(1009,1009)] [] ?_;(conv=>whnf);refine dG (zph s a b k m hm mf) ?_)
 (refine cL ?_;refine dL (zcv (zcd s m)) ?_)
 refine zaj hm' rfl (zw ?_);refine zaj hm' rfl (zw ?_);refine zaj hm' rfl (zw ?_);refine zaj hm' rfl (zw ?_);refine zaj hm' rfl (zw ?_);refine zat (z:=m.sent+many s m) hWs (zw ?_);refine zaa (c:=0<=m.sent/\m.sent<=m.sent+many s m/\m.sent+many s m<=((m.message.data.map zdv).length:Int)) ⟨ms,by omega,by rw [zy2];omega⟩ (zw ?_);refine zjf (o':=m.sent.toNat) (n':=(many s m).toNat) rfl (show (m.sent+many s m-m.sent).toNat=(many s m).toNat by rw [show m.sent+many s m-m.sent=many s m by omega]) ?_;refine zlo (f:=zdv) (l:=m.message.data) (o:=m.sent.toNat) (n:=(many s m).toNat) zz0 ?_;(conv=>whnf)
 (refine zas [(0,150)]  ?_;(conv=>whnf);refine dO (Cl.zcs ((m.message.data.drop m.sent.toNat).take (many s m).toNat) zz3) ?_)
 refine ziq [4,10,18,24,29,33,37] ?_ ?_ ?_
 . kernel_rfl
 . refine ⟨?_,?_,?_,?_,?_,?_,?_,trivial⟩
   all_goals
    refine And.intro trivial ?_;refine And.intro trivial ?_;refine And.intro ?_ trivial;(conv=>whnf);refine And.intro ?_ ?_
    . conv=>whnf
      all_goals first | rfl | exact zaj hm rfl rfl
    refine And.intro ?_ trivial;(conv=>whnf)
    all_goals first | rfl | exact zaj hm' rfl rfl
 (conv=>whnf);refine zaj hm' rfl (zw ?_)
 (refine zas [(0,163)]  ?_;(conv=>whnf);refine dO (zjy s.sched {m with mid:=zcd s m} (many s m) (ovr s m) zz0 mf.lo mh) ?_)
 refine sD ?_;refine zaj hm' rfl (zw ?_);refine zaj hm' rfl (zw ?_);refine zaj hm' rfl (zw ?_);refine zaj hm' rfl (zw ?_);refine zaa (c:=((s.out.map zbs.row).length+1)*200<=140737488355328) zz15 (zw ?_);refine sD ?_;refine sR ?_;refine zaj hm' rfl (zw ?_);refine zat (z:=m.sent+many s m) hWs (zw ?_);refine zaj hm' rfl (zw ?_);refine zbu rfl zz42 (zw ?_);refine sR ?_;refine zbu rfl zz42 (zw ?_);refine zbm (z':=(s.out.length:Int)) ?_ ?_
 . show W ((((zhy s k m).out.map zbs.row++[_]).length:Int)-1)=_
   rw [zy6,zy2,show (zhy s k m).out=s.out from rfl,zbi (by simp only [zy5,zy13];omega) (by simp only [zy5,zy13];omega)];simp only [zy5,zy13];omega
 (conv=>whnf);refine zaa zz9 (zw ?_)
 (refine zac [] [(1000,1000),(1001,1001),(1002,163),(1003,199),(1004,1004),(1005,1005),(1006,1006),(1007,1007),(1008,1008),(1009,1009)] [(0,920)] ?_;(conv=>whnf);refine dG (znx (s2 s k m) a b s.out.length (x0 s m) w zz79 hw zz0) ?_ ⟨rfl,rfl,rfl,⟨zz1,⟨⟨rfl,_,rfl,.inl ⟨rfl,ypb⟩⟩,⟨zz1,⟨⟨rfl,_,rfl,.inl ⟨rfl,(zca (f:=zbs.row) (x:=x0 s m) rfl rfl)⟩⟩,⟨zz1,⟨zz1,⟨zz1,⟨zz1,⟨zz1,⟨zz1,trivial⟩⟩⟩⟩⟩⟩⟩⟩⟩⟩,⟨⟨rfl,rfl⟩,trivial⟩,rfl,rfl,rfl⟩)
 refine sD ?_;cases hov:ovr s m with
 | true =>
  refine zai ?_ ?_
  . exact hov
  conv=>whnf
  repeat refine sG ?_
  refine zbm (z':=((k+1:Nat):Int)) ?_ ?_
  . show W ((k:Int)+1)=_
    rw [zbi (by omega) (by omega)];push_cast;rfl
  conv=>whnf
  (refine zac [] [(1000,1001)] [(0,930)] ?_;(conv=>whnf);refine dG (xfs (s.queue.set k (m2 s m)) k (k+1) zz0 zz3 zz3) ?_)
  rw [zff hc0 hw rfl,zy1 hov] at hG;subst hG
  (exact zdd (zhi [(0,some 930),(1,some 163),(2,some 199),(3,some 1004),(4,some 1005),(5,some 1006),(6,some 920),(7,some 1009)]) zz12)
 | false =>
  refine zag ?_ ?_
  . exact hov
  conv=>whnf
  repeat refine sG ?_
  rw [zff hc0 hw rfl,zy0 (by rw [hov];decide)] at hG;subst hG
  (exact zbz (zhi [(0,some 1001),(1,some 163),(2,some 199),(3,some 1004),(4,some 1005),(5,some 1006),(6,some 920),(7,some 1009)]))):P:=h
theorem yy9 {P:Prop} (h:P:=by
 subst hG
 repeat refine sG ?_
 (exact zbz (zhi [(0,some 1001),(1,some 1002),(2,some 1003),(3,some 1004),(4,some 1005),(5,some 1006),(6,some 1008),(7,some 1009)]))):P:=h
theorem yy1 {P:Prop} (h:P:=by
 refine zaj hm rfl (zw ?_);refine zat (z:=m.sent+many s m) hWs (zw ?_);refine zaj hm rfl (zw ?_);refine sD ?_;have hm':(zhy s k m).queue[k]?=some {m with mid:=zcd s m}:=by show (s.queue.set k _)[k]?=_;rw [zy25 hkl]
 have hmr:(s.queue.map zaf.row)[k]?=some m.row:=by rw [zy11,hm];rfl
 (refine cL ?_;refine dL (zcv s.next) ?_)
 refine zaj hm rfl (zw ?_)
 (refine zac [] [(1000,1000),(1001,1001),(1002,1002),(1003,1003),(1004,1004),(1005,1005),(1006,1006),(1007,1007),(1008,1008),(1009,1009)] [] ?_;(conv=>whnf);refine dG (zph s a b k m hm mf) ?_)
 (refine cL ?_;refine dL (zcv (zcd s m)) ?_)
 refine zaj hm' rfl (zw ?_);refine zaj hm' rfl (zw ?_);refine zaj hm' rfl (zw ?_);refine zaj hm' rfl (zw ?_);refine zaj hm' rfl (zw ?_);refine zat (z:=m.sent+many s m) hWs (zw ?_);refine zaa (c:=0<=m.sent/\m.sent<=m.sent+many s m/\m.sent+many s m<=((m.message.data.map zdv).length:Int)) ⟨ms,by omega,by rw [zy2];omega⟩ (zw ?_);refine zjf (o':=m.sent.toNat) (n':=(many s m).toNat) rfl (show (m.sent+many s m-m.sent).toNat=(many s m).toNat by rw [show m.sent+many s m-m.sent=many s m by omega]) ?_;refine zlo (f:=zdv) (l:=m.message.data) (o:=m.sent.toNat) (n:=(many s m).toNat) zz0 ?_;(conv=>whnf)
 (refine zas [(0,150)]  ?_;(conv=>whnf);refine dO (Cl.zcs ((m.message.data.drop m.sent.toNat).take (many s m).toNat) zz3) ?_)
 refine ziq [4,10,18,24,29,33,37] ?_ ?_ ?_
 . kernel_rfl
 . refine ⟨?_,?_,?_,?_,?_,?_,?_,trivial⟩
   all_goals
    refine And.intro trivial ?_;refine And.intro trivial ?_;refine And.intro ?_ trivial;(conv=>whnf);refine And.intro ?_ ?_
    . conv=>whnf
      all_goals first | rfl | exact zaj hm rfl rfl
    refine And.intro ?_ trivial;(conv=>whnf)
    all_goals first | rfl | exact zaj hm' rfl rfl
 (conv=>whnf);refine zaj hm' rfl (zw ?_)
 (refine zas [(0,163)]  ?_;(conv=>whnf);refine dO (zjy s.sched {m with mid:=zcd s m} (many s m) (ovr s m) zz0 mf.lo mh) ?_)
 refine sD ?_;refine zaj hm' rfl (zw ?_);refine zaj hm' rfl (zw ?_);refine zaj hm' rfl (zw ?_);refine zaj hm' rfl (zw ?_);refine zaa (c:=((s.out.map zbs.row).length+1)*200<=140737488355328) zz15 (zw ?_);refine sD ?_;refine sR ?_;refine zaj hm' rfl (zw ?_);refine zat (z:=m.sent+many s m) hWs (zw ?_);refine zaj hm' rfl (zw ?_);refine zbu rfl zz42 (zw ?_);refine sR ?_;refine zbu rfl zz42 (zw ?_);refine zbm (z':=(s.out.length:Int)) ?_ ?_
 . show W ((((zhy s k m).out.map zbs.row++[_]).length:Int)-1)=_
   rw [zy6,zy2,show (zhy s k m).out=s.out from rfl,zbi (by simp only [zy5,zy13];omega) (by simp only [zy5,zy13];omega)];simp only [zy5,zy13];omega
 (conv=>whnf);refine zaa zz9 (zw ?_)
 (refine zac [] [(1000,1000),(1001,1001),(1002,163),(1003,199),(1004,1004),(1005,1005),(1006,1006),(1007,1007),(1008,1008),(1009,1009)] [(0,920)] ?_;(conv=>whnf);refine dG (zny (s2 s k m) a b s.out.length (x0 s m) w zz79 hw zz0) ?_ ⟨rfl,rfl,rfl,⟨zz1,⟨⟨rfl,_,rfl,.inl ⟨rfl,ypb⟩⟩,⟨zz1,⟨⟨rfl,_,rfl,.inl ⟨rfl,(zca (f:=zbs.row) (x:=x0 s m) rfl rfl)⟩⟩,⟨zz1,⟨zz1,⟨zz1,⟨zz1,⟨zz1,⟨zz1,trivial⟩⟩⟩⟩⟩⟩⟩⟩⟩⟩,⟨⟨rfl,rfl⟩,trivial⟩,rfl,rfl,rfl⟩)
 refine sD ?_;cases hov:ovr s m with
 | true =>
  refine zai ?_ ?_
  . exact hov
  conv=>whnf
  repeat refine sG ?_
  refine zbm (z':=((k+1:Nat):Int)) ?_ ?_
  . show W ((k:Int)+1)=_
    rw [zbi (by omega) (by omega)];push_cast;rfl
  conv=>whnf
  (refine zac [] [(1000,1001)] [(0,930)] ?_;(conv=>whnf);refine dG (xfs (s.queue.set k (m2 s m)) k (k+1) zz0 zz3 zz3) ?_)
  rw [zff hc0 hw rfl,zy1 hov] at hG;subst hG
  (exact zdd (zhi [(0,some 930),(1,some 163),(2,some 199),(3,some 1004),(4,some 1005),(5,some 1006),(6,some 1008),(7,some 920)]) zz12)
 | false =>
  refine zag ?_ ?_
  . exact hov
  conv=>whnf
  repeat refine sG ?_
  rw [zff hc0 hw rfl,zy0 (by rw [hov];decide)] at hG;subst hG
  (exact zbz (zhi [(0,some 1001),(1,some 163),(2,some 199),(3,some 1004),(4,some 1005),(5,some 1006),(6,some 1008),(7,some 920)]))):P:=h
theorem yy13 {P:Prop} (h:P:=by
 rw [zy0 ho] at hP;refine zag ?_ ?_
 . simpa using ho
 conv=>whnf
 repeat refine sG ?_
 refine zaa (c:=(0:Int)<=zce s.config.packet B/\zce s.config.packet B<=((B.map Chunk.row).length:Int)/\((B.map Chunk.row).length:Int)<=((B.map Chunk.row).length:Int)) ⟨by omega,by rw [zy2];omega,by omega⟩ (zw ?_);obtain ⟨x,B1,hx⟩:∃ x B1,B.take r=x::B1:=by
  cases hq:B.take r with
  | nil=>rw [zy108] at hq;rcases hq with hq | hq;omega;exact absurd hq hB
  | cons x B1=>exact ⟨x,B1,rfl⟩
 have hxl:B1.length+1=r:=by have:=congrArg List.length hx;simp at this;omega
 refine hQ2 _ _ (zw ?_);exact ⟨⟨((x::B1,B.drop r),n,acc),by rw [<- hx,zy23],by simp;omega,by simp;omega,by rw [<- i3,hP];simp⟩,(zbv (zhi [(900,some 900)]) zz7),by simp;omega⟩):P:=h
theorem yy16 {P:Prop} (h:P:=by
 cases hq:B.take r with
 | nil=>rw [zy108] at hq;rcases hq with hq | hq;omega;exact absurd hq hB
 | cons x B1=>exact ⟨x,B1,rfl⟩):P:=h
theorem yy48 {P:Prop} (h:P:=by
 conv=>whnf
 repeat refine sG ?_
 refine hQ2 _ _ (zw ?_);refine sF ?_;refine hQ _ _ ?_;conv=>whnf
 exact ⟨⟨(0+1,acc),by dsimp only;omega,by dsimp only;rw [zy13] at i4;omega,i3⟩,(zcx (pK9 [(900,some 900)])),by dsimp only;omega⟩):P:=h
theorem yy49 {P:Prop} (h:P:=by
 conv=>whnf
 repeat refine sG ?_
 refine hQ2 _ _ (zw ?_);refine sF ?_;refine hQ _ _ ?_;conv=>whnf
 exact ⟨⟨(0+1,acc),by dsimp only;omega,by dsimp only;rw [zy13] at i4;omega,i3⟩,(zcx (zhi [(900,some 900)])),by dsimp only;omega⟩):P:=h
theorem yy50 {P:Prop} (h:P:=by
 conv=>whnf
 repeat refine sG ?_
 refine hQ2 _ _ (zw ?_);refine sF ?_;refine hQ _ _ ?_;conv=>whnf
 exact ⟨⟨(1+1,acc),by dsimp only;omega,by dsimp only;rw [zy13] at i4;omega,i3⟩,(zcx (zhi [(900,some 900)])),by dsimp only;omega⟩):P:=h
theorem yy66 {P:Prop} (h:P:=by
 refine hQ2 _ _ (zw ?_);exact ⟨⟨((t::(A++B.take r),B.drop r),n,acc),by rw [i1];simp,by simp;omega,by simp;omega,by rw [<- i3,hP];simp⟩,(zbv (zhi [(900,some 900)]) zz6),by simp;omega⟩):P:=h
theorem yy14 {P:Prop} (h:P:=by
 refine ziq [3] ?_ ?_ ?_
 . kernel_rfl
 . refine ⟨?_,trivial⟩
   refine And.intro trivial ?_;refine And.intro trivial ?_;refine And.intro ?_ trivial;(conv=>whnf);refine And.intro ?_ ?_
   . conv=>whnf
   refine And.intro ?_ trivial;(conv=>whnf)
   all_goals first | rfl | trace_state
 (conv=>whnf);refine zam [(0,some 900),(1,some 901),(2,some 902),(3,some 903),(4,some 904),(5,some 905),(6,some 970)] rfl rfl trivial rfl rfl ⟨⟨rfl,.inl ⟨900,rfl,rfl⟩⟩,⟨rfl,.inl ⟨901,rfl,rfl⟩⟩,⟨rfl,.inl ⟨902,rfl,rfl⟩⟩,⟨rfl,.inl ⟨903,rfl,?_⟩⟩,⟨rfl,.inl ⟨904,rfl,rfl⟩⟩,⟨rfl,.inl ⟨905,rfl,rfl⟩⟩,⟨rfl,.inl ⟨970,rfl,?_⟩⟩,trivial⟩
 . exact zaq (by rw [zy7,ygs,hN,h])
 . exact zaq zz82):P:=h
theorem yy27 {P:Prop} (h:P:=by
 refine sF ?_;exact ⟨⟨(A++[p],B),zar h⟩,(zcu ((2,some 2)::((16,some 16)::((14,some 14)::(pJ7 [])))) zz8),by simp⟩):P:=h
theorem yy28 {P:Prop} (h:P:=by
 refine sF ?_;exact ⟨⟨(A++[p],B),zar h⟩,(zcu ((2,some 2)::((16,some 16)::((14,some 14)::(pJ8 [])))) zz8),by simp⟩):P:=h
theorem yy68 {P:Prop} (h:P:=by
 refine zal (a:=A.map (zfy t N)) (b:=B) (s:=p) rfl zz5 (zw ?_);refine sF ?_;exact ⟨⟨(A++[p],B),zar h⟩,(zcu ((2,some 2)::((16,some 16)::((14,some 14)::(pJ7 [])))) zz10),by simp⟩):P:=h
theorem yy69 {P:Prop} (h:P:=by
 refine zal (a:=A.map (zfy t N)) (b:=B) (s:=p) rfl zz5 (zw ?_);refine sF ?_;exact ⟨⟨(A++[p],B),zar h⟩,(zcu ((2,some 2)::((16,some 16)::((14,some 14)::(pJ8 [])))) zz10),by simp⟩):P:=h
theorem yy25 {P:Prop} (h:P:=by
 refine sT ?_;refine zaa (c:=((out.map zbs.row).length+1)*200<=140737488355328) om (zw ?_);refine sF ?_;exact ⟨⟨_,hnx⟩,(zcu [(6,some 6),(900,some 900),(901,some 115),(902,some 902)] zz23),by simp⟩):P:=h
theorem yy39 {P:Prop} (h:P:=by
 (repeat' (first | refine sT ?_ | refine sN ?_))
 refine sO ?_;refine zdn s.path.toNat zz0 zz0 (zw ?_);refine sR ?_;refine sO ?_;refine zdn s.path.toNat zz0 zz0 (zw ?_);refine sD ?_;refine sN ?_;refine sF ?_;exact ⟨⟨_,hnx⟩,(zcu ((6,some 6)::(pJ3 [])) zz29),by simp⟩):P:=h
theorem yy45 {P:Prop} (h:P:=by
 (refine zas [(0,46)]  ?_;(conv=>whnf);refine dO (zdc l hl) ?_)
 exact zam [(0,some 46),(1,some 900),(2,none)] rfl rfl trivial rfl rfl ⟨⟨rfl,.inl ⟨46,rfl,rfl⟩⟩,⟨rfl,.inl ⟨900,rfl,rfl⟩⟩,⟨rfl,.inr ⟨rfl,rfl⟩⟩,trivial⟩):P:=h
theorem yy90 {P:Prop} (h:P:=by
 refine sT ?_;refine sF ?_;exact ⟨⟨(a++[s],b),zar h⟩,(zcu [(900,some 900),(901,some 901),(903,some 903)] zz38),by simp⟩):P:=h
theorem yy4 {P:Prop} (h:P:=by
 (refine zac [] [(1000,932)] [(0,960)] ?_;(conv=>whnf);refine dG (Sco.zes t.out t.cum zz90) ?_)
 cases mv with
 | false =>
  rw [show zem false t=t from zy0 (fun h=>absurd h.1 (by decide))] at hT;subst hT;(conv=>whnf)
  (refine zac [] [(1000,5),(1001,930),(1002,931),(1003,932),(1004,933),(1005,934),(1006,935)] [(0,980),(1,981),(2,982),(3,983),(4,984),(5,985)] ?_;(conv=>whnf);refine dG (zdz t (hft)) ?_ ⟨rfl,rfl,rfl,⟨zz1,⟨zz1,⟨zz1,⟨zz1,⟨zz1,⟨zz1,⟨zz1,trivial⟩⟩⟩⟩⟩⟩⟩,⟨⟨rfl,rfl⟩,⟨⟨rfl,rfl⟩,⟨⟨rfl,rfl⟩,⟨⟨rfl,rfl⟩,⟨⟨rfl,rfl⟩,⟨⟨rfl,rfl⟩,trivial⟩⟩⟩⟩⟩⟩,rfl,rfl,rfl⟩)
  refine zam [(0,some 980),(1,some 981),(2,some 982),(3,some 983),(4,some 984),(5,some 985)] rfl rfl trivial rfl rfl ⟨⟨rfl,.inl ⟨980,rfl,rfl⟩⟩,⟨rfl,.inl ⟨981,rfl,rfl⟩⟩,⟨rfl,.inl ⟨982,rfl,rfl⟩⟩,⟨rfl,.inl ⟨983,rfl,rfl⟩⟩,⟨rfl,.inl ⟨984,rfl,rfl⟩⟩,⟨rfl,.inl ⟨985,rfl,rfl⟩⟩,trivial⟩
 | true =>
  (conv=>whnf);by_cases e1:(Sco.zdx t.out t.cum).1>t.cum
  case pos =>
   rw [show zem true t={t with forward:=true} from zy1 ⟨rfl,e1⟩] at hT;subst hT;rw [show decide ((Sco.zdx t.out t.cum).1>t.cum)=true from zy15 e1];(conv=>whnf)
   (refine zac [] [(1000,5),(1001,930),(1002,931),(1003,932),(1004,933),(1005,934),(1006,935)] [(0,980),(1,981),(2,982),(3,983),(4,984),(5,985)] ?_;(conv=>whnf);refine dG (zdz ({t with forward:=true}:zab) ((Fit.fwd hft))) ?_ ⟨rfl,rfl,rfl,⟨zz1,⟨zz1,⟨zz1,⟨zz1,⟨zz1,⟨zz1,⟨zz1,trivial⟩⟩⟩⟩⟩⟩⟩,⟨⟨rfl,rfl⟩,⟨⟨rfl,rfl⟩,⟨⟨rfl,rfl⟩,⟨⟨rfl,rfl⟩,⟨⟨rfl,rfl⟩,⟨⟨rfl,rfl⟩,trivial⟩⟩⟩⟩⟩⟩,rfl,rfl,rfl⟩)
   refine zam [(0,some 980),(1,some 981),(2,some 982),(3,some 983),(4,some 984),(5,some 985)] rfl rfl trivial rfl rfl ⟨⟨rfl,.inl ⟨980,rfl,rfl⟩⟩,⟨rfl,.inl ⟨981,rfl,rfl⟩⟩,⟨rfl,.inl ⟨982,rfl,rfl⟩⟩,⟨rfl,.inl ⟨983,rfl,rfl⟩⟩,⟨rfl,.inl ⟨984,rfl,rfl⟩⟩,⟨rfl,.inl ⟨985,rfl,rfl⟩⟩,trivial⟩
  case neg =>
   rw [show zem true t=t from zy0 (fun h=>e1 h.2)] at hT;subst hT;rw [show decide ((Sco.zdx t.out t.cum).1>t.cum)=false from zy18 e1];(conv=>whnf)
   (refine zac [] [(1000,5),(1001,930),(1002,931),(1003,932),(1004,933),(1005,934),(1006,935)] [(0,980),(1,981),(2,982),(3,983),(4,984),(5,985)] ?_;(conv=>whnf);refine dG (zdz t (hft)) ?_ ⟨rfl,rfl,rfl,⟨zz1,⟨zz1,⟨zz1,⟨zz1,⟨zz1,⟨zz1,⟨zz1,trivial⟩⟩⟩⟩⟩⟩⟩,⟨⟨rfl,rfl⟩,⟨⟨rfl,rfl⟩,⟨⟨rfl,rfl⟩,⟨⟨rfl,rfl⟩,⟨⟨rfl,rfl⟩,⟨⟨rfl,rfl⟩,trivial⟩⟩⟩⟩⟩⟩,rfl,rfl,rfl⟩)
   refine zam [(0,some 980),(1,some 981),(2,some 982),(3,some 983),(4,some 984),(5,some 985)] rfl rfl trivial rfl rfl ⟨⟨rfl,.inl ⟨980,rfl,rfl⟩⟩,⟨rfl,.inl ⟨981,rfl,rfl⟩⟩,⟨rfl,.inl ⟨982,rfl,rfl⟩⟩,⟨rfl,.inl ⟨983,rfl,rfl⟩⟩,⟨rfl,.inl ⟨984,rfl,rfl⟩⟩,⟨rfl,.inl ⟨985,rfl,rfl⟩⟩,trivial⟩):P:=h
theorem yy5 {P:Prop} (h:P:=by
 refine zam [(0,some 980),(1,some 981),(2,some 982),(3,some 983),(4,some 984),(5,some 985)] rfl rfl trivial rfl rfl ⟨⟨rfl,.inl ⟨980,rfl,rfl⟩⟩,⟨rfl,.inl ⟨981,rfl,rfl⟩⟩,⟨rfl,.inl ⟨982,rfl,rfl⟩⟩,⟨rfl,.inl ⟨983,rfl,rfl⟩⟩,⟨rfl,.inl ⟨984,rfl,rfl⟩⟩,⟨rfl,.inl ⟨985,rfl,rfl⟩⟩,trivial⟩):P:=h
theorem yy31 {P:Prop} (h:P:=by
 (conv=>whnf);exact zam [(0,some 20),(1,some 21),(2,some 22),(3,some 23),(4,some 24),(5,some 25)] rfl rfl trivial rfl rfl ⟨⟨rfl,.inl ⟨20,rfl,rfl⟩⟩,⟨rfl,.inl ⟨21,rfl,rfl⟩⟩,⟨rfl,.inl ⟨22,rfl,rfl⟩⟩,⟨rfl,.inl ⟨23,rfl,rfl⟩⟩,⟨rfl,.inl ⟨24,rfl,rfl⟩⟩,⟨rfl,.inl ⟨25,rfl,rfl⟩⟩,trivial⟩):P:=h
theorem yy84 {P:Prop} (h:P:=by
 split
 . obtain ⟨k,hk⟩:∃ k:Nat,m.id=k:=⟨m.id.toNat,by omega⟩
   rw [hk];exact ⟨yrv h zz0,by rw [zqe,zy28]⟩
 . exact ⟨h,rfl⟩):P:=h
theorem yy70 {P:Prop} (h:P:=by
 exact ⟨by rw [g2];exact q.path0,by rw [g2];exact q.path1,by rw [g3];exact q.id0,by rw [g3];exact q.id1,by rw [g4];exact q.zau,by rw [g4];exact q.zbx,by rw [g4];exact q.data⟩):P:=h
theorem yy97 {P:Prop} (h:P:=by
 try refine sG ?_
 rw [hjv];refine zam [(0,none)] rfl rfl trivial rfl rfl ⟨⟨rfl,.inr ⟨rfl,rfl⟩⟩,trivial⟩):P:=h
theorem yy101 {P:Prop} (h:P:=by
 intro hlt;have:=zy144 (yop n) l;rw [show l.dropWhile (yop n)=t::r from ha] at this;simp [yop] at this;omega):P:=h
theorem yy38 {P:Prop} (h:P:=by
 refine zam [(0,some 24)] rfl rfl trivial rfl rfl ⟨⟨rfl,.inl ⟨24,rfl,rfl⟩⟩,trivial⟩):P:=h
theorem yy41 {P:Prop} (h:P:=by
 (conv=>whnf);rw [zjk,zy1 he];refine zam [(0,some 84)] rfl rfl trivial rfl rfl ⟨⟨rfl,.inl ⟨84,rfl,?_⟩⟩,trivial⟩;exact zyi zz72):P:=h
theorem yy96 {P:Prop} (h:P:=by
 subst hu;refine zam [(0,some 31)] rfl rfl trivial rfl rfl ⟨⟨rfl,.inl ⟨31,rfl,?_⟩⟩,trivial⟩;exact zyi h):P:=h
theorem yy58 {P:Prop} (h:P:=by
 (exact zbz (pK5 [(0,some 910),(1,some 911),(2,some 912),(3,some 913)]))):P:=h
theorem yy79 {P:Prop} (h:P:=by
 (exact zbz (pK5 [(0,some 1001),(1,some 1002),(2,some 1003),(3,some 1004)]))):P:=h
theorem yy32 {P:Prop} (h:P:=by
 refine sD ?_
 (exact zbz [(0,some 910),(1,some 911),(2,some 912),(3,some 913)])):P:=h
theorem yy74 {P:Prop} (h:P:=by
 try refine sG ?_
 (exact zbz [(0,some 910),(1,some 911),(2,some 912),(3,some 913)])):P:=h
namespace Go.HL
namespace Snd
open Ser
theorem yxe (id:Int) (s:zab) (m:zaf):(zfb id s m).out.length=s.out.length+(if m.id=id/\m.parts>0 then 1 else 0):=by
 unfold zfb;split<;>simp
theorem ykl (id:Int):∀ (q:List zaf) (s:zab),(q.foldl (zfb id) s).out.length+(q.filter fun m=>decide (m.id≠id)).length<=s.out.length+q.length
 | [],s=>by simp
 | m::q,s=>by
  have h1:=yxe id s m;have h2:=ykl id q (zfb id s m);rw [zy37,zy57,zy5];by_cases c:m.id=id
  . simp [c] at h1 h2 ⊢;split at h1<;>omega
  . simp [c] at h1 h2 ⊢;omega
theorem ykh (id:Int):∀ (q:List zaf) (s:zab),∀ x∈(q.foldl (zfb id) s).out,x∈s.out\/x.id=id
 | [],s,x,h=>.inl h
 | m::q,s,x,h=>by
  rcases ykh id q (zfb id s m) x h with h | h
  . unfold zfb at h
    split at h
    . rename_i c
      rcases zy14.1 h with h | h
      . exact .inl h
      . rw [zy21] at h;subst h;exact .inr c.1
    . exact .inl h
  . exact .inr h
structure yjl (s:zab):Prop where
 fit:Fit s
 sum:s.out.length+s.queue.length<2 ^ 30
 qid:∀ m∈s.queue,0<=m.id/\m.id<s.fates.length
 xid:∀ x∈s.out,0<=x.id/\x.id<s.fates.length
structure Rest (s t:zab):Prop where
 config:t.config=s.config
 clock:t.clock=s.clock
 had:t.sched.had=s.sched.had
 paths:t.paths.length=s.paths.length
 cum:t.cum=s.cum
 room:t.room=s.room
 mids:t.mids=s.mids
 fates:t.fates.length=s.fates.length
 sum:t.out.length+t.queue.length<=s.out.length+s.queue.length
theorem Rest.refl (s:zab):Rest s s:=⟨rfl,rfl,rfl,rfl,rfl,rfl,rfl,rfl,zy20 _⟩
theorem Rest.trans {a b c:zab} (h:Rest a b) (k:Rest b c):Rest a c:=⟨k.config.trans h.config,k.clock.trans h.clock,k.had.trans h.had,k.paths.trans h.paths,k.cum.trans h.cum,k.room.trans h.room,k.mids.trans h.mids,k.fates.trans h.fates,zy109 k.sum h.sum⟩
theorem zjo (s:zab) (id:Nat):Rest s (zfn s id)/\Sco.total (zfn s id).out=Sco.total s.out/\(∀ m∈(zfn s id).queue,m∈s.queue)/\(∀ x∈(zfn s id).out,x.id=id\/∃ y∈s.out,y.id=x.id):=by
 obtain ⟨o,n,h1,h2,h3⟩:=yre s id s.queue;have hs:=ykl id s.queue {s with fates:=s.fates.set id 3};have hm:=ykh id s.queue {s with fates:=s.fates.set id 3};rw [h1] at hs hm;have hg:zfn s id=zej {(zjn s id o n) with queue:=s.queue.filter fun m=>decide (m.id≠id),sched:=if s.sched.hand=id then {s.sched with hand:=-1} else s.sched,out:=o.map (Sco.zif id),forward:=true}:=by
  show zej {(s.queue.foldl (zfb id) {s with fates:=s.fates.set id 3}) with queue:=s.queue.filter fun m=>decide (m.id≠id),sched:=if s.sched.hand=id then {s.sched with hand:=-1} else s.sched,out:=(s.queue.foldl (zfb id) {s with fates:=s.fates.set id 3}).out.map (Sco.zif id),forward:=true}=_;rw [h1];rfl
 have hid:∀ y:zbs,(Sco.zif id y).id=y.id:=fun y=>by unfold Sco.zif;split<;>rfl
 rw [hg];refine ⟨⟨rfl,rfl,?_,?_,rfl,rfl,rfl,?_,?_⟩,?_,?_,?_⟩
 . show (if s.sched.hand=id then {s.sched with hand:=-1} else s.sched:zja).had=_;split<;>rfl
 . show (s.paths.mapIdx _).length=_;simp
 . show (s.fates.set id 3).length=_;simp
 . show (o.map (Sco.zif id)).length+_<=_
   rw [zy2];exact hs
 . show Sco.total (o.map (Sco.zif id))=_
   rw [zjp,h3]
 . intro m h;exact (zy90.1 h).1
 . intro x h
   obtain ⟨y,hy,rfl⟩:=zy26.1 h;rcases hm y hy with h | h
   . exact .inr ⟨y,h,(hid y).symm⟩
   . exact .inl ((hid y).trans h)
theorem zzx {s:zab} (h:yjl s) {id:Nat} (hid:id<s.fates.length):yjl (zfn s id):=by
 obtain ⟨r,h1,h2,h3⟩:=zjo s id;obtain ⟨⟨f1,f2,f3,f4,f5,f6,f7⟩,g2,g3,g4⟩:=h;have hs:=r.sum;have hq:(zfn s id).queue.length<=s.queue.length:=by
  have:(zfn s id).queue=s.queue.filter fun m:zaf=>decide (m.id≠(id:Int)):=rfl
  rw [this];exact zy65 _ _
 refine ⟨⟨by omega,by rw [r.had];exact f2,⟨by omega,by rw [h1];exact f3.bytes⟩,by rw [r.paths];exact f4,by rw [r.mids];exact f5,by rw [r.fates];exact f6,fun m hm=>f7 m (h2 m hm)⟩,by omega,fun m hm=>by rw [r.fates];exact g3 m (h2 m hm),fun x hx=>?_⟩;rw [r.fates];rcases h3 x hx with e | ⟨y,hy,e⟩
 . rw [e];omega
 . rw [<- e];exact g4 y hy
theorem zzp {s:zab} (h:yjl s) {m:zaf} (hm:0<=m.id/\m.id<s.fates.length):yjl (zlb s m)/\Rest s (zlb s m):=by
 unfold zlb;split
 . obtain ⟨k,hk⟩:∃ k:Nat,m.id=k:=⟨m.id.toNat,by omega⟩
   rw [hk];exact ⟨zzx h zz0,(zjo s k).1⟩
 . exact ⟨h,Rest.refl s⟩
theorem zzr {s:zab} (h:yjl s) {x:zbs} (hm:0<=x.id/\x.id<s.fates.length):yjl (zie s x)/\Rest s (zie s x):=by
 unfold zie;split
 . obtain ⟨k,hk⟩:∃ k:Nat,x.id=k:=⟨x.id.toNat,by omega⟩
   rw [hk];exact ⟨zzx h zz0,(zjo s k).1⟩
 . exact ⟨h,Rest.refl s⟩
theorem yfy (s:zab)  (hs:yjl s):zao Tryz.prog 93 [.ptr 1000 0] (lk .free (pH3 s )) (.tup []) (lk .free (pD3 (expire s) )):=by
 have hs':=hs;obtain ⟨⟨h1,h2,h3,h4,h5,h6,h7⟩,g2,g3,g4⟩:=hs;generalize hE:expire s=E;refine zan mixed Tryz.func93 zz4 [1000,1001,1002,1003,1004,1005,1006,1007] zbj ?_;(conv=>whnf)
 (refine zac [] [(1000,1001)] [(0,11)] ?_;(conv=>whnf);refine dG (xao s.queue zz0) ?_)
 refine ⟨{x:(List zaf×List zaf)×zab // s.queue=x.1.1++x.1.2/\x.1.1.foldl zlb s=x.2/\yjl x.2/\Rest s x.2},
  fun | ⟨((A,B),t),_⟩=>hsP [1000,1001,1002,1003,1004,1005,1006,1007] 85 [(0,.ptr 1000 0),(11,.own 11),(12,i64 s.queue.length),(13,i64 A.length)] (xhm t  900 901 902 903 904 905 1007 [(1001,.dead),(1002,.dead),(1003,.dead),(1004,.dead),(1005,.dead),(1006,.dead),(11,xie s.queue)]),fun x=>x.1.1.2.length,⟨(([],s.queue),s),rfl,rfl,hs',Rest.refl s⟩,?_,?_⟩
 . exact (zcx (pK8 ((900,some 1001)::(901,some 1002)::(902,some 1003)::(903,some 1004)::(904,some 1005)::(905,some 1006)::[(11,some 11)])))
 rintro ⟨⟨⟨A,B⟩,t⟩,k1,k2,k3,k4⟩;dsimp only at k1 k2 k3 k4;refine zge fun Q hQ=>?_
 (conv=>whnf);cases B with
 | cons m B =>
  have hz:=zcf k1;have zda:(A++[m]).foldl zlb s=zlb t m:=by rw [zy76,k2];rfl
  have hm:=g3 m (zkw k1);have ht:=k4.fates;obtain ⟨id,hid⟩:∃ k:Nat,m.id=k:=⟨m.id.toNat,by omega⟩
  obtain ⟨kn,kr⟩:=zzp k3 (m:=m) zz0;refine sT ?_;refine sO ?_;refine zal k1 rfl (zw ?_)
  (refine zac [] [(1000,1000),(1001,900),(1002,901),(1003,902),(1004,903),(1005,904),(1006,905),(1007,1007)] [] ?_;(conv=>whnf);refine dG (ygg t  m.came m.message.life) ?_)
  cases ho:old t.clock m.came m.message.life with
  | true =>
   rw [zlb,zy1 ho] at zda kn kr;have pg:=zvo t  id k3.fit zz0 zz83;exact yy20
  | false =>
   exact yy62
 | nil =>
  have hz:=zcw k1;rw [zy7] at k1;rw [<- k1] at k2;have hE2:t.out.foldl zie t=E:=by rw [<- hE,expire,k2]
  have ko:=k3.sum;refine sN ?_;refine hQ _ _ ?_;conv=>whnf
  (refine zac [] [(1000,902)] [(0,34)] ?_;(conv=>whnf);refine dG (xap t.out zz0) ?_)
  refine ⟨{x:(List zbs×List zbs)×zab // t.out=x.1.1++x.1.2/\x.1.1.foldl zie t=x.2/\yjl x.2/\Rest t x.2},
   fun | ⟨((A,B),u),_⟩=>hsP [1000,1001,1002,1003,1004,1005,1006,1007] 85 [(0,.ptr 1000 0),(34,.own 34),(35,i64 t.out.length),(36,i64 A.length)] (xhm u  900 901 902 903 904 905 1007 [(1001,.dead),(1002,.dead),(1003,.dead),(1004,.dead),(1005,.dead),(1006,.dead),(34,xiu t.out)]),fun x=>x.1.1.2.length,⟨(([],t.out),t),rfl,rfl,k3,Rest.refl t⟩,?_,?_⟩
  . exact (zcx (pK8 (pJ6 [(34,some 34)])))
  have g4:=k3.xid;clear hs' g3 g2 k4 k2 k1 hE hQ Q;rintro ⟨⟨⟨A,B⟩,u⟩,k1,k2,k3,k4⟩;dsimp only at k1 k2 k3 k4;refine zge fun Q hQ=>?_
  (conv=>whnf);cases B with
  | cons x B =>
   have hz:=zcf k1;have zda:(A++[x]).foldl zie t=zie u x:=by rw [zy76,k2];rfl
   have hm:=g4 x (zkw k1);have ht:=k4.fates;obtain ⟨id,hid⟩:∃ k:Nat,x.id=k:=⟨x.id.toNat,by omega⟩
   obtain ⟨kn,kr⟩:=zzr k3 (x:=x) zz0;have hidl:id<u.fates.length:=by omega
   have pg:=zvo u  id k3.fit hidl zz83;rw [<- hid] at pg;obtain ⟨f,hf⟩:∃ f,u.fates[id]?=some f:=⟨_,zy3 hidl⟩
   have hdue:xcs u x=(decide (f=1)&&(decide (x.state≠2)&&(old u.clock x.came x.life||(decide (x.state=3)&&(decide (x.tries>0)&&decide (x.times>x.tries)))))):=by
    unfold xcs;rw [hid,zy38,hf];rfl
   refine sT ?_;refine sO ?_;refine zal k1 rfl (zw ?_);refine sOm ?_;refine zaj hf zz0 (zw ?_);by_cases d1:f=1
   case neg =>
    refine zag ?_ ?_
    . simpa using d1
    (conv=>whnf);refine sD ?_
    repeat refine sG ?_
    refine sF ?_;refine hQ _ _ ?_;conv=>whnf
    rw [zie,zy0 (by rw [hdue];simp [d1])] at zda;exact yy11
   refine zai ?_ ?_
   . simpa using d1
   (conv=>whnf);by_cases d2:x.state=2
   case pos =>
    refine zag ?_ ?_
    . simpa using d2
    (conv=>whnf);refine sD ?_
    repeat refine sG ?_
    refine sF ?_;refine hQ _ _ ?_;conv=>whnf
    rw [zie,zy0 (by rw [hdue];simp [d1,d2])] at zda;exact yy11
   refine zai ?_ ?_
   . simpa using d2
   conv=>whnf
   (refine zac [] [(1000,1000),(1001,900),(1002,901),(1003,902),(1004,903),(1005,904),(1006,905),(1007,1007)] [] ?_;(conv=>whnf);refine dG (ygg u  x.came x.life) ?_)
   exact yy7
  | nil =>
   exact yy51
theorem yfz (s:zab)  (hs:yjl s):zao Tryz.prog 93 [.ptr 1000 0] (lk .free (pH4 s )) (.tup []) (lk .free (pD4 (expire s) )):=by
 have hs':=hs;obtain ⟨⟨h1,h2,h3,h4,h5,h6,h7⟩,g2,g3,g4⟩:=hs;generalize hE:expire s=E;refine zan mixed Tryz.func93 zz4 [1000,1001,1002,1003,1004,1005,1006,1007] zbj ?_;(conv=>whnf)
 (refine zac [] [(1000,1001)] [(0,11)] ?_;(conv=>whnf);refine dG (xao s.queue zz0) ?_)
 refine ⟨{x:(List zaf×List zaf)×zab // s.queue=x.1.1++x.1.2/\x.1.1.foldl zlb s=x.2/\yjl x.2/\Rest s x.2},
  fun | ⟨((A,B),t),_⟩=>hsP [1000,1001,1002,1003,1004,1005,1006,1007] 85 [(0,.ptr 1000 0),(11,.own 11),(12,i64 s.queue.length),(13,i64 A.length)] (xhn t  900 901 902 903 904 905 1007 [(1001,.dead),(1002,.dead),(1003,.dead),(1004,.dead),(1005,.dead),(1006,.dead),(11,xie s.queue)]),fun x=>x.1.1.2.length,⟨(([],s.queue),s),rfl,rfl,hs',Rest.refl s⟩,?_,?_⟩
 . exact (zcx (pK8 ((900,some 1001)::(901,some 1002)::(902,some 1003)::(903,some 1004)::(904,some 1005)::(905,some 1006)::[(11,some 11)])))
 rintro ⟨⟨⟨A,B⟩,t⟩,k1,k2,k3,k4⟩;dsimp only at k1 k2 k3 k4;refine zge fun Q hQ=>?_
 (conv=>whnf);cases B with
 | cons m B =>
  have hz:=zcf k1;have zda:(A++[m]).foldl zlb s=zlb t m:=by rw [zy76,k2];rfl
  have hm:=g3 m (zkw k1);have ht:=k4.fates;obtain ⟨id,hid⟩:∃ k:Nat,m.id=k:=⟨m.id.toNat,by omega⟩
  obtain ⟨kn,kr⟩:=zzp k3 (m:=m) zz0;refine sT ?_;refine sO ?_;refine zal k1 rfl (zw ?_)
  (refine zac [] [(1000,1000),(1001,900),(1002,901),(1003,902),(1004,903),(1005,904),(1006,905),(1007,1007)] [] ?_;(conv=>whnf);refine dG (ygh t  m.came m.message.life) ?_)
  cases ho:old t.clock m.came m.message.life with
  | true =>
   rw [zlb,zy1 ho] at zda kn kr;have pg:=zvp t  id k3.fit zz0 zz83;exact yy20
  | false =>
   exact yy62
 | nil =>
  have hz:=zcw k1;rw [zy7] at k1;rw [<- k1] at k2;have hE2:t.out.foldl zie t=E:=by rw [<- hE,expire,k2]
  have ko:=k3.sum;refine sN ?_;refine hQ _ _ ?_;conv=>whnf
  (refine zac [] [(1000,902)] [(0,34)] ?_;(conv=>whnf);refine dG (xap t.out zz0) ?_)
  refine ⟨{x:(List zbs×List zbs)×zab // t.out=x.1.1++x.1.2/\x.1.1.foldl zie t=x.2/\yjl x.2/\Rest t x.2},
   fun | ⟨((A,B),u),_⟩=>hsP [1000,1001,1002,1003,1004,1005,1006,1007] 85 [(0,.ptr 1000 0),(34,.own 34),(35,i64 t.out.length),(36,i64 A.length)] (xhn u  900 901 902 903 904 905 1007 [(1001,.dead),(1002,.dead),(1003,.dead),(1004,.dead),(1005,.dead),(1006,.dead),(34,xiu t.out)]),fun x=>x.1.1.2.length,⟨(([],t.out),t),rfl,rfl,k3,Rest.refl t⟩,?_,?_⟩
  . exact (zcx (pK8 (pJ6 [(34,some 34)])))
  have g4:=k3.xid;clear hs' g3 g2 k4 k2 k1 hE hQ Q;rintro ⟨⟨⟨A,B⟩,u⟩,k1,k2,k3,k4⟩;dsimp only at k1 k2 k3 k4;refine zge fun Q hQ=>?_
  (conv=>whnf);cases B with
  | cons x B =>
   have hz:=zcf k1;have zda:(A++[x]).foldl zie t=zie u x:=by rw [zy76,k2];rfl
   have hm:=g4 x (zkw k1);have ht:=k4.fates;obtain ⟨id,hid⟩:∃ k:Nat,x.id=k:=⟨x.id.toNat,by omega⟩
   obtain ⟨kn,kr⟩:=zzr k3 (x:=x) zz0;have hidl:id<u.fates.length:=by omega
   have pg:=zvp u  id k3.fit hidl zz83;rw [<- hid] at pg;obtain ⟨f,hf⟩:∃ f,u.fates[id]?=some f:=⟨_,zy3 hidl⟩
   have hdue:xcs u x=(decide (f=1)&&(decide (x.state≠2)&&(old u.clock x.came x.life||(decide (x.state=3)&&(decide (x.tries>0)&&decide (x.times>x.tries)))))):=by
    unfold xcs;rw [hid,zy38,hf];rfl
   refine sT ?_;refine sO ?_;refine zal k1 rfl (zw ?_);refine sOm ?_;refine zaj hf zz0 (zw ?_);by_cases d1:f=1
   case neg =>
    refine zag ?_ ?_
    . simpa using d1
    (conv=>whnf);refine sD ?_
    repeat refine sG ?_
    refine sF ?_;refine hQ _ _ ?_;conv=>whnf
    rw [zie,zy0 (by rw [hdue];simp [d1])] at zda;exact yy11
   refine zai ?_ ?_
   . simpa using d1
   (conv=>whnf);by_cases d2:x.state=2
   case pos =>
    refine zag ?_ ?_
    . simpa using d2
    (conv=>whnf);refine sD ?_
    repeat refine sG ?_
    refine sF ?_;refine hQ _ _ ?_;conv=>whnf
    rw [zie,zy0 (by rw [hdue];simp [d1,d2])] at zda;exact yy11
   refine zai ?_ ?_
   . simpa using d2
   conv=>whnf
   (refine zac [] [(1000,1000),(1001,900),(1002,901),(1003,902),(1004,903),(1005,904),(1006,905),(1007,1007)] [] ?_;(conv=>whnf);refine dG (ygh u  x.came x.life) ?_)
   exact yy7
  | nil =>
   exact yy51
end Snd
namespace Snd
open Ser
def xbd (l:List (List Chunk)):List Chunk:=l[0]?.getD []
def xha (l:List (List Chunk)):List Chunk:=l[1]?.getD []
theorem ycl:∀ (l:List Path) (k:Nat),(k=0->0<l.length)->∃ c:Nat,Paths.zdk k l=c/\(c=0\/c<k+l.length)
 | [],k,h=>⟨0,rfl,.inl rfl⟩
 | p::r,k,_=>by
  rw [Paths.zdk];split
  . exact ⟨k,rfl,.inr zz5⟩
  . obtain ⟨c,h1,h2⟩:=ycl r (k+1) zz0
    exact ⟨c,h1,by rcases h2 with h2 | h2;exact .inl h2;exact .inr zz3⟩
theorem zed {s:zab} (h:0<s.paths.length):Paths.zdk 0 s.paths=(choose s:Nat)/\choose s<s.paths.length:=by
 obtain ⟨c,h1,h2⟩:=ycl s.paths 0 fun _=>h
 unfold choose;rw [h1];exact ⟨by simp,by rcases h2 with h2 | h2<;>simp<;>omega⟩
def zul (s:zab):Chunk:=⟨3,tag (Sco.zdx s.out s.cum).1,0,0,0,false,false,[],[],0,(Sco.zdx s.out s.cum).2⟩
def yqh (s:zab) (k:Nat) (w:Path):zab:={s with forward:=false,paths:=s.paths.set k (zcj s w)}
theorem zxj {s:zab} {o:List (List Chunk)} (h:s.forward=false\/(Sco.zdx s.out s.cum).1=s.cum):forward ⟨s,o⟩=⟨s,o⟩:=by rw [forward,zy1 h]
theorem yho {s:zab} {o:List (List Chunk)} {w:Path} {l:List Chunk} (h:¬ (s.forward=false\/(Sco.zdx s.out s.cum).1=s.cum)) (ha:s.paths[choose s]?=some w) (hl:o[choose s]?=some l) :
 forward ⟨s,o⟩=⟨yqh s (choose s) w,o.set (choose s) (l++[zul s])⟩:=by
 rw [forward,zy0 h];simp only [setAt,ha,hl,yqh,zul]
theorem zza {s:zab} {w:Path} (h:¬ w.zcj=0):zcj s w=w:=by rw [zcj,zy0 h]
theorem ztn {s:zab} {w:Path} (h:w.zcj=0):zcj s w={w with zcj:=W (s.clock+w.wait)}:=by rw [zcj,zy1 h]
theorem ybm (s:zab) (h3:s.out.length<2 ^ 38) (h4:s.paths.length=1) :
 zao Tryz.prog 94 [.ptr 1000 0] (lk .free (pH3 s)) (.tup [])
  (lk .free (xfy (forward ⟨s,[[]]⟩).s (xbd (forward ⟨s,[[]]⟩).out) 1001 1002 1003 1004 1005 1006 1007 0 [])):=by
 obtain ⟨hch,hch2⟩:=zed (s:=s) zz0;have hc0:choose s=0:=by omega
 have pc:=Paths.zef s.paths zz0;rw [hch,hc0] at pc;obtain ⟨w,ha⟩:∃ w,s.paths[0]?=some w:=⟨_,zy3 zz0⟩
 refine zan mixed Tryz.func94 zz4 [1000,1001,1002,1003,1004,1005,1006,1007] zbj ?_;(conv=>whnf)
 (refine zac [] [(1000,1003)] [(0,17)] ?_;(conv=>whnf);refine dG (Sco.zes s.out s.cum h3) ?_)
 refine sD ?_;by_cases c1:s.forward=false
 . rw [zxj (.inl c1)]
   refine zai ?_ ?_
   . simp [c1]
   conv=>whnf
   repeat refine sG ?_
   (exact zbz (pK8 [(0,none)]))
 by_cases c2:(Sco.zdx s.out s.cum).1=s.cum
 . rw [zxj (.inr c2)]
   refine zag ?_ ?_
   . simp [c1]
   (conv=>whnf);refine zai ?_ ?_
   . simp [c2]
   conv=>whnf
   repeat refine sG ?_
   (exact zbz (pK8 [(0,none)]))
 have hfy:=yho (o:=[[]]) (l:=[]) (w:=w) zz67 (by rw [hc0];exact ha) (by rw [hc0];rfl);rw [hfy,hc0];refine zag ?_ ?_
 . simp [c1]
 (conv=>whnf);refine zag ?_ ?_
 . simp [c2]
 conv=>whnf
 repeat refine sG ?_
 (refine cL ?_;refine dL pc ?_)
 refine ⟨0,rfl,by decide,zw ?_⟩
 (refine cL ?_;refine dL (zcv _) ?_)
 refine zaa (c:=(1:Nat)*128<=140737488355328) zz4 (zw ?_);refine ⟨0,rfl,by decide,zw ?_⟩;refine sD ?_;refine sOm ?_;refine zaj ha rfl (zw ?_);by_cases c3:w.zcj=0
 case pos =>
  refine zai ?_ ?_
  . simpa using c3
  conv=>whnf
  repeat refine sG ?_
  refine zaj ha rfl (zw ?_);refine sR ?_;refine zaj ha rfl (zw ?_);refine sD ?_
  (exact zdd (pK8 [(0,some 62)]) zz19)
 case neg =>
  refine zag ?_ ?_
  . simpa using c3
  conv=>whnf
  repeat refine sG ?_
  rw [show (yqh s 0 w)={s with forward:=false} by {unfold yqh;rw [zza c3,zpb ha]}]
  (exact zbz (pK8 [(0,some 62)]))
theorem ybn (s:zab) (h3:s.out.length<2 ^ 38) (h4:s.paths.length=2) :
 zao Tryz.prog 94 [.ptr 1000 0] (lk .free (pH4 s)) (.tup [])
  (lk .free (xbp (forward ⟨s,[[],[]]⟩).s (xbd (forward ⟨s,[[],[]]⟩).out) (xha (forward ⟨s,[[],[]]⟩).out) 1001 1002 1003 1004 1005 1006 1007 0 1 [])):=by
 obtain ⟨hch,hch2⟩:=zed (s:=s) zz0;have hc01:choose s=0\/choose s=1:=by omega
 rcases hc01 with hc0 | hc0
 case inl =>
  have pc:=Paths.zef s.paths zz0;rw [hch,hc0] at pc;obtain ⟨w,ha⟩:∃ w,s.paths[0]?=some w:=⟨_,zy3 zz0⟩
  refine zan mixed Tryz.func94 zz4 [1000,1001,1002,1003,1004,1005,1006,1007] zbj ?_;(conv=>whnf)
  (refine zac [] [(1000,1003)] [(0,17)] ?_;(conv=>whnf);refine dG (Sco.zes s.out s.cum h3) ?_)
  refine sD ?_;by_cases c1:s.forward=false
  . rw [zxj (.inl c1)]
    exact yy104
  by_cases c2:(Sco.zdx s.out s.cum).1=s.cum
  . rw [zxj (.inr c2)]
    exact yy85
  have hfy:=yho (o:=[[],[]]) (l:=[]) (w:=w) zz67 (by rw [hc0];exact ha) (by rw [hc0];rfl);rw [hfy,hc0];refine zag ?_ ?_
  . simp [c1]
  (conv=>whnf);refine zag ?_ ?_
  . simp [c2]
  conv=>whnf
  repeat refine sG ?_
  (refine cL ?_;refine dL pc ?_)
  refine ⟨0,rfl,by decide,zw ?_⟩
  (refine cL ?_;refine dL (zcv _) ?_)
  refine zaa (c:=(1:Nat)*128<=140737488355328) zz4 (zw ?_);refine ⟨0,rfl,by decide,zw ?_⟩;refine sD ?_;refine sOm ?_;refine zaj ha rfl (zw ?_);by_cases c3:w.zcj=0
  case pos =>
   refine zai ?_ ?_
   . simpa using c3
   conv=>whnf
   repeat refine sG ?_
   refine zaj ha rfl (zw ?_);refine sR ?_;refine zaj ha rfl (zw ?_);refine sD ?_
   (exact zdd (pK8 [(0,some 62),(1,none)]) zz19)
  case neg =>
   refine zag ?_ ?_
   . simpa using c3
   conv=>whnf
   repeat refine sG ?_
   rw [show (yqh s 0 w)={s with forward:=false} by {unfold yqh;rw [zza c3,zpb ha]}]
   (exact zbz (pK8 [(0,some 62),(1,none)]))
 case inr =>
  have pc:=Paths.zef s.paths zz0;rw [hch,hc0] at pc;obtain ⟨w,ha⟩:∃ w,s.paths[1]?=some w:=⟨_,zy3 zz0⟩
  refine zan mixed Tryz.func94 zz4 [1000,1001,1002,1003,1004,1005,1006,1007] zbj ?_;(conv=>whnf)
  (refine zac [] [(1000,1003)] [(0,17)] ?_;(conv=>whnf);refine dG (Sco.zes s.out s.cum h3) ?_)
  refine sD ?_;by_cases c1:s.forward=false
  . rw [zxj (.inl c1)]
    exact yy104
  by_cases c2:(Sco.zdx s.out s.cum).1=s.cum
  . rw [zxj (.inr c2)]
    exact yy85
  have hfy:=yho (o:=[[],[]]) (l:=[]) (w:=w) zz67 (by rw [hc0];exact ha) (by rw [hc0];rfl);rw [hfy,hc0];refine zag ?_ ?_
  . simp [c1]
  (conv=>whnf);refine zag ?_ ?_
  . simp [c2]
  conv=>whnf
  repeat refine sG ?_
  (refine cL ?_;refine dL pc ?_)
  refine ⟨1,rfl,by decide,zw ?_⟩
  (refine cL ?_;refine dL (zcv _) ?_)
  refine zaa (c:=(1:Nat)*128<=140737488355328) zz4 (zw ?_);refine ⟨1,rfl,by decide,zw ?_⟩;refine sD ?_;refine sOm ?_;refine zaj ha rfl (zw ?_);by_cases c3:w.zcj=0
  case pos =>
   refine zai ?_ ?_
   . simpa using c3
   conv=>whnf
   repeat refine sG ?_
   refine zaj ha rfl (zw ?_);refine sR ?_;refine zaj ha rfl (zw ?_);refine sD ?_
   (exact zdd (pK8 [(1,some 62),(0,none)]) (by repeat' (first | exact z0 | refine z1 ?_ | refine ⟨?_,?_⟩ | ((exact (zer (f:=Path.row) (y:={w with zcj:=W (s.clock+w.wait)}) rfl).trans (zaq (by rw [show (yqh s 1 w).paths=s.paths.set 1 (zcj s w) from rfl,ztn c3];rfl)))) | exact z2)))
  case neg =>
   refine zag ?_ ?_
   . simpa using c3
   conv=>whnf
   repeat refine sG ?_
   rw [show (yqh s 1 w)={s with forward:=false} by {unfold yqh;rw [zza c3,zpb ha]}]
   (exact zbz (pK8 [(1,some 62),(0,none)]))
end Snd
namespace Snd
open Ser
theorem zmn {α:Type} (f:α->Nat->α) (p:α) (i:Nat):(List.range (i+1)).foldl f p=f ((List.range i).foldl f p) i:=by
 rw [List.range_succ,zy76];rfl
theorem zsp {s:zab} {o:List (List Chunk)} {i c:Nat} {x:zbs} {w:Path} (hx:s.out[i]?=some x) (hw:s.paths[c]?=some w) (h:¬ (x.state=3/\w.zak<w.window)):zdp c ⟨s,o⟩ i=⟨s,o⟩:=by
 simp only [zdp,hx,opened,hw];rw [zy0 (by simpa using h)]
theorem zof {s:zab} {o:List (List Chunk)} {i c:Nat} {x:zbs} {w:Path} {l:List Chunk} (hx:s.out[i]?=some x) (hw:s.paths[c]?=some w) (hl:o[c]?=some l) (h:x.state=3/\w.zak<w.window) :
 zdp c ⟨s,o⟩ i=⟨yda s i c x w,o.set c (l++[x.chunk])⟩:=by
 simp only [zdp,hx,opened,hw];rw [zy1 (by simpa using h),xat hx hw hl]
theorem yiy (s:zab) (a:List Chunk) (h3:s.out.length<2 ^ 28) (h4:s.paths.length=1) (ha:a.length<2 ^ 28) :
 zao Tryz.prog 95 [.ptr 1000 0] (lk .free (pH1 s a)) (.tup [])
  (lk .free (xfy (again ⟨s,[a]⟩).s (xbd (again ⟨s,[a]⟩).out) 1001 1002 1003 1004 1005 1006 1007 0 [(1008,.dead)])):=by
 obtain ⟨hch,hch2⟩:=zed (s:=s) zz0;have hc0:choose s=0:=by omega
 have pc:=Paths.zef s.paths zz0;rw [hch,hc0] at pc;have hag:again ⟨s,[a]⟩=(List.range s.out.length).foldl (zdp 0) ⟨s,[a]⟩:=by rw [again,hc0]
 generalize again ⟨s,[a]⟩=G at hag ⊢;refine zan mixed Tryz.func95 zz4 [1000,1001,1002,1003,1004,1005,1006,1007,1008] zbj ?_;(conv=>whnf)
 (refine cL ?_;refine dL pc ?_)
 refine ⟨{x:Nat×zab×List Chunk // x.1<=s.out.length/\(List.range x.1).foldl (zdp 0) ⟨s,[a]⟩=⟨x.2.1,[x.2.2]⟩/\x.2.1.out.length=s.out.length/\x.2.1.paths.length=s.paths.length/\x.2.2.length<=a.length+x.1},
  fun | ⟨(i,t,a'),_⟩=>hsP [1000,1001,1002,1003,1004,1005,1006,1007,1008] 51 [(0,.ptr 1000 0),(2,i64 0),(15,i64 s.out.length),(16,i64 i)] (xfy t a' 1001 1002 1003 1004 1005 1006 1007 900 [(1008,.dead)]),fun x=>s.out.length-x.1.1,⟨(0,s,a),by omega,rfl,rfl,rfl,by dsimp only;omega⟩,?_,?_⟩
 . exact (zbv (pK9 [(900,some 1008)]) zz2)
 rintro ⟨⟨i,t,a'⟩,k1,k2,k3,k4,k5⟩;dsimp only at k1 k2 k3 k4 k5;(conv=>whnf);by_cases hi:i<s.out.length
 case pos =>
  obtain ⟨x,hx⟩:∃ x,t.out[i]?=some x:=⟨_,zy3 zz0⟩
  obtain ⟨w,hw⟩:∃ w,t.paths[0]?=some w:=⟨_,zy3 zz0⟩
  have hst:=zmn (zdp 0) ⟨s,[a]⟩ i;rw [k2] at hst;have hno:=zsp (o:=[a']) (c:=0) hx hw;have hyes:=zof (o:=[a']) (c:=0) (l:=a') hx hw rfl;refine sT ?_;refine sO ?_;refine zaj hx rfl (zw ?_);by_cases d1:x.state=3
  case neg =>
   refine zag ?_ ?_
   . simpa using d1
   conv=>whnf
   repeat refine sG ?_
   refine sF ?_;exact ⟨⟨(i+1,t,a'),by dsimp only;omega,by rw [hst,hno fun h=>d1 h.1],k3,k4,by dsimp only;omega⟩,(zbv (pK9 [(900,some 900)]) zz2),by dsimp only;omega⟩
  refine zai ?_ ?_
  . simpa using d1
  (conv=>whnf);refine sOm ?_;refine zaj hw rfl (zw ?_)
  (refine cL ?_;refine dL (Paths.zka w) ?_)
  by_cases d2:w.zak<w.window
  case neg =>
   refine zag ?_ ?_
   . simpa using d2
   conv=>whnf
   repeat refine sG ?_
   refine sF ?_;exact ⟨⟨(i+1,t,a'),by dsimp only;omega,by rw [hst,hno fun h=>d2 h.2],k3,k4,by dsimp only;omega⟩,(zbv (pK9 [(900,some 900)]) zz2),by dsimp only;omega⟩
  refine zai ?_ ?_
  . simpa using d2
  conv=>whnf
  repeat refine sG ?_
  refine sOm ?_
  (refine zac [] [(1000,1000),(1001,1001),(1002,1002),(1003,1003),(1004,1004),(1005,1005),(1006,1006),(1007,1007),(1008,900)] [(0,920)] ?_;(conv=>whnf);refine dG (znw t a' i x w hx hw zz0) ?_)
  refine sF ?_;exact ⟨⟨(i+1,yda t i 0 x w,a'++[x.chunk]),by dsimp only;omega,by rw [hst,hyes ⟨d1,d2⟩];rfl,by show (t.out.set i _).length=_;rw [zy28];exact k3,by show (t.paths.set 0 _).length=_;rw [zy28];exact k4,by simp;omega⟩,(zbv (pK9 [(900,some 920)]) zz2),by dsimp only;omega⟩
 case neg =>
  have hin:i=s.out.length:=by omega
  subst hin;refine sN ?_;rw [k2] at hag;subst hag
  (exact zbz (pK9 [(0,some 900)]))
theorem yiz (s:zab) (a b:List Chunk) (h3:s.out.length<2 ^ 28) (h4:s.paths.length=2) (ha:a.length+b.length<2 ^ 28) :
 zao Tryz.prog 95 [.ptr 1000 0] (lk .free (pH2 s a b)) (.tup [])
  (lk .free (xbp (again ⟨s,[a,b]⟩).s (xbd (again ⟨s,[a,b]⟩).out) (xha (again ⟨s,[a,b]⟩).out) 1001 1002 1003 1004 1005 1006 1007 0 1 [(1008,.dead),(1009,.dead)])):=by
 obtain ⟨hch,hch2⟩:=zed (s:=s) zz0;have hc01:choose s=0\/choose s=1:=by omega
 rcases hc01 with hc0 | hc0
 case inl =>
  have pc:=Paths.zef s.paths zz0;rw [hch,hc0] at pc;have hag:again ⟨s,[a,b]⟩=(List.range s.out.length).foldl (zdp 0) ⟨s,[a,b]⟩:=by rw [again,hc0]
  generalize again ⟨s,[a,b]⟩=G at hag ⊢;refine zan mixed Tryz.func95 zz4 [1000,1001,1002,1003,1004,1005,1006,1007,1008,1009] zbj ?_;(conv=>whnf)
  (refine cL ?_;refine dL pc ?_)
  refine ⟨{x:Nat×zab×List Chunk×List Chunk // x.1<=s.out.length/\(List.range x.1).foldl (zdp 0) ⟨s,[a,b]⟩=⟨x.2.1,[x.2.2.1,x.2.2.2]⟩/\x.2.1.out.length=s.out.length/\x.2.1.paths.length=s.paths.length/\x.2.2.1.length+x.2.2.2.length<=a.length+b.length+x.1},
   fun | ⟨(i,t,a',b'),_⟩=>hsP [1000,1001,1002,1003,1004,1005,1006,1007,1008,1009] 51 [(0,.ptr 1000 0),(2,i64 0),(15,i64 s.out.length),(16,i64 i)] (xbp t a' b' 1001 1002 1003 1004 1005 1006 1007 900 901 [(1008,.dead),(1009,.dead)]),fun x=>s.out.length-x.1.1,⟨(0,s,a,b),by omega,rfl,rfl,rfl,by dsimp only;omega⟩,?_,?_⟩
  . exact (zbv (zhi [(900,some 1008),(901,some 1009)]) zz2)
  rintro ⟨⟨i,t,a',b'⟩,k1,k2,k3,k4,k5⟩;dsimp only at k1 k2 k3 k4 k5;(conv=>whnf);by_cases hi:i<s.out.length
  case pos =>
   obtain ⟨x,hx⟩:∃ x,t.out[i]?=some x:=⟨_,zy3 zz0⟩
   obtain ⟨w,hw⟩:∃ w,t.paths[0]?=some w:=⟨_,zy3 zz0⟩
   have hst:=zmn (zdp 0) ⟨s,[a,b]⟩ i;rw [k2] at hst;have hno:=zsp (o:=[a',b']) (c:=0) hx hw;have hyes:=zof (o:=[a',b']) (c:=0) (l:=a') hx hw rfl;refine sT ?_;refine sO ?_;refine zaj hx rfl (zw ?_);by_cases d1:x.state=3
   case neg =>
    exact yy42
   refine zai ?_ ?_
   . simpa using d1
   (conv=>whnf);refine sOm ?_;refine zaj hw rfl (zw ?_)
   (refine cL ?_;refine dL (Paths.zka w) ?_)
   by_cases d2:w.zak<w.window
   case neg =>
    exact yy43
   refine zai ?_ ?_
   . simpa using d2
   conv=>whnf
   repeat refine sG ?_
   refine sOm ?_
   (refine zac [] [(1000,1000),(1001,1001),(1002,1002),(1003,1003),(1004,1004),(1005,1005),(1006,1006),(1007,1007),(1008,900),(1009,901)] [(0,920)] ?_;(conv=>whnf);refine dG (znx t a' b' i x w hx hw zz0) ?_)
   refine sF ?_;exact ⟨⟨(i+1,yda t i 0 x w,a'++[x.chunk],b'),by dsimp only;omega,by rw [hst,hyes ⟨d1,d2⟩];rfl,by show (t.out.set i _).length=_;rw [zy28];exact k3,by show (t.paths.set 0 _).length=_;rw [zy28];exact k4,by simp;omega⟩,(zbv (zhi ((900,some 920)::[(901,some 901)])) zz2),by dsimp only;omega⟩
  case neg =>
   exact yy89
 case inr =>
  have pc:=Paths.zef s.paths zz0;rw [hch,hc0] at pc;have hag:again ⟨s,[a,b]⟩=(List.range s.out.length).foldl (zdp 1) ⟨s,[a,b]⟩:=by rw [again,hc0]
  generalize again ⟨s,[a,b]⟩=G at hag ⊢;refine zan mixed Tryz.func95 zz4 [1000,1001,1002,1003,1004,1005,1006,1007,1008,1009] zbj ?_;(conv=>whnf)
  (refine cL ?_;refine dL pc ?_)
  refine ⟨{x:Nat×zab×List Chunk×List Chunk // x.1<=s.out.length/\(List.range x.1).foldl (zdp 1) ⟨s,[a,b]⟩=⟨x.2.1,[x.2.2.1,x.2.2.2]⟩/\x.2.1.out.length=s.out.length/\x.2.1.paths.length=s.paths.length/\x.2.2.1.length+x.2.2.2.length<=a.length+b.length+x.1},
   fun | ⟨(i,t,a',b'),_⟩=>hsP [1000,1001,1002,1003,1004,1005,1006,1007,1008,1009] 51 [(0,.ptr 1000 0),(2,i64 1),(15,i64 s.out.length),(16,i64 i)] (xbp t a' b' 1001 1002 1003 1004 1005 1006 1007 900 901 [(1008,.dead),(1009,.dead)]),fun x=>s.out.length-x.1.1,⟨(0,s,a,b),by omega,rfl,rfl,rfl,by dsimp only;omega⟩,?_,?_⟩
  . exact (zbv (zhi [(900,some 1008),(901,some 1009)]) zz2)
  rintro ⟨⟨i,t,a',b'⟩,k1,k2,k3,k4,k5⟩;dsimp only at k1 k2 k3 k4 k5;(conv=>whnf);by_cases hi:i<s.out.length
  case pos =>
   obtain ⟨x,hx⟩:∃ x,t.out[i]?=some x:=⟨_,zy3 zz0⟩
   obtain ⟨w,hw⟩:∃ w,t.paths[1]?=some w:=⟨_,zy3 zz0⟩
   have hst:=zmn (zdp 1) ⟨s,[a,b]⟩ i;rw [k2] at hst;have hno:=zsp (o:=[a',b']) (c:=1) hx hw;have hyes:=zof (o:=[a',b']) (c:=1) (l:=b') hx hw rfl;refine sT ?_;refine sO ?_;refine zaj hx rfl (zw ?_);by_cases d1:x.state=3
   case neg =>
    exact yy42
   refine zai ?_ ?_
   . simpa using d1
   (conv=>whnf);refine sOm ?_;refine zaj hw rfl (zw ?_)
   (refine cL ?_;refine dL (Paths.zka w) ?_)
   by_cases d2:w.zak<w.window
   case neg =>
    exact yy43
   refine zai ?_ ?_
   . simpa using d2
   conv=>whnf
   repeat refine sG ?_
   refine sOm ?_
   (refine zac [] [(1000,1000),(1001,1001),(1002,1002),(1003,1003),(1004,1004),(1005,1005),(1006,1006),(1007,1007),(1008,900),(1009,901)] [(0,920)] ?_;(conv=>whnf);refine dG (zny t a' b' i x w hx hw zz0) ?_)
   refine sF ?_;exact ⟨⟨(i+1,yda t i 1 x w,a',b'++[x.chunk]),by dsimp only;omega,by rw [hst,hyes ⟨d1,d2⟩];rfl,by show (t.out.set i _).length=_;rw [zy28];exact k3,by show (t.paths.set 1 _).length=_;rw [zy28];exact k4,by simp;omega⟩,(zbv (zhi ((900,some 900)::[(901,some 920)])) zz2),by dsimp only;omega⟩
  case neg =>
   exact yy89
end Snd
theorem zzl {rows ys:List (List PV)} {z:List PV} {i j a k m:Nat} (hij:i<=j) (hj:j<=rows.length) (ha:a=i) (hy:ys=(rows.drop j).take (rows.length-j)) (hk:k=i+ys.length) (hm:m=j-i) (_:i+ys.length+(j-i)=rows.length) :
 zcm (zcm rows a ys) k (List.replicate m z)=rows.take i++rows.drop j++List.replicate (j-i) z:=by
 subst ha hm;have hy2:ys=rows.drop j:=by rw [hy,zy35 (by simp)]
 have h1:ys.length=rows.length-j:=by rw [hy2];simp
 have h2:(rows.take a).length=a:=by simp;omega
 have h3:zcm rows a ys=(rows.take a++ys)++rows.drop k:=by rw [zcm,hk]
 have h4:(rows.take a++ys).length=k:=by simp;omega
 rw [zcm,h3,zy92 h4,zy29 (by simp only [zy6,zy32,zy93,h2];omega),zy7,hy2]
theorem yxy {rows ys zs:List (List PV)} {a b k:Nat} (hk:k<rows.length) (ha:a=k+1) (hy:ys=rows.drop k) (hb:b=k) (hz:zs.length=1):zcm (zcm rows a ys) b zs=rows.take k++zs++rows.drop k:=by
 subst ha hy hb;have h1:zcm rows (b+1) (rows.drop b)=rows.take (b+1)++rows.drop b:=by
  rw [zcm,zy29 (i:=b+1+(rows.drop b).length) (by simp;omega),zy7]
 have h2:(rows.take (b+1)).length=b+1:=by simp;omega
 rw [zcm,h1,hz,List.drop_left' h2,zy71 (by omega),List.take_take,Nat.min_eq_left (by omega)]
theorem yxx {rows ys zs:List (List PV)} {z:List PV} {a b k m:Nat} (hk:k<rows.length) (hm:m=rows.length+1-k) (ha:a=k) (hz:zs.length=1) (hb:b=k+1) (hy:ys=rows.drop k) :
 zcm (zcm (rows.take k++List.replicate m z) a zs) b ys=rows.take k++zs++rows.drop k:=by
 subst hm ha hb hy;have h1:(rows.take a).length=a:=by simp;omega
 have h2:zcm (rows.take a++List.replicate (rows.length+1-a) z) a zs=(rows.take a++zs)++(rows.take a++List.replicate (rows.length+1-a) z).drop (a+1):=by
  rw [zcm,zy92 h1,hz]
 have h3:(rows.take a++zs).length=a+1:=by simp;omega
 rw [zcm,h2,zy92 h3,zy29 (i:=a+1+_) (by simp;omega),zy7]
theorem xlf {α:Type} {f:α->List PV} {v:α} {m:Nat} {l r:List α} (h:0<m):(l.map f++[f v].take m)++r.map f=(l++v::r).map f:=by
 rw [zy35 (by simp;omega),zy34,zy22,zy31];rfl
theorem xhi {α:Type} {f:α->List PV} {v:α} {m k:Nat} {l:List α} (h:0<m):(l.map f).take k++[f v].take m++(l.map f).drop k=(l.take k++v::l.drop k).map f:=by
 rw [<- zy119,<- zy102];exact xlf h
def ztt (cmp:Span->Int) (l:List Span) (K:Nat):Bool:=match l[K]? with | some s=>cmp s==0 | none=>false
theorem xfc {g:FuncId} {cmp:Span->Int} {n:Int} (hg:∀ m:Span,zao Tryz.prog g [m.hv,i64 n] zae (i64 (cmp m)) zae) (l:List Span) (K:Nat) (hK:K<=l.length) (hm:∀ (i:Nat) (h:i<l.length),cmp l[i]<0↔i<K) (hb:l.length<2 ^ 40) :
 zao Tryz.prog 195 [Ser.zau l,i64 n,.clo g []] zae (.tup [i64 K,zbl (ztt cmp l K)]) zae:=by
 refine zap mixed Tryz.func195 zz4 ?_;(conv=>whnf);refine ⟨{x:Nat×Nat // x.1<=K/\K<=x.2/\x.2<=l.length},fun | ⟨(i,j),_⟩=>hs 49 [(0,Ser.zau l),(1,i64 n),(2,.clo g []),(8,i64 l.length),(9,i64 i),(10,i64 j)] [],fun x=>x.1.2-x.1.1,⟨(0,l.length),by simp,hK,zy20 _⟩,?_,?_⟩
 . exact (zdi [])
 rintro ⟨⟨i,j⟩,h1,h2,h3⟩;dsimp only at h1 h2 h3;(conv=>whnf);by_cases c:i<j
 . have hlt:(i+j) / 2<l.length:=by omega
   refine sT ?_;refine sF ?_;refine zbm (zti zz0 zz0) (zw ?_);refine zaa zz4 (zw ?_);refine zbm (z':=(((i+j) / 2:Nat):Int)) ?_ ?_
   . show W (((i:Int)+j) / 2)=_
     rw [zbi (by omega) (by omega)];omega
   (conv=>whnf);refine zdn ((i+j) / 2) rfl hlt (zw ?_)
   (refine cZ ?_;refine dL (hg l[(i+j) / 2]) ?_)
   by_cases c2:cmp l[(i+j) / 2]<0
   . have hk:=(hm _ hlt).1 c2
     refine sT ?_;refine sF ?_;exact ⟨⟨((i+j) / 2+1,j),hk,h2,h3⟩,(zdi []),by dsimp only;omega⟩
   . have hk:¬ (i+j) / 2<K:=fun h=>c2 ((hm _ hlt).2 h)
     refine sN ?_;exact ⟨⟨(i,(i+j) / 2),h1,by dsimp only;omega,by dsimp only;omega⟩,(zdi []),by dsimp only;omega⟩
 . have hi:i=K:=by omega
   subst hi;refine sN ?_;by_cases c2:i<l.length
   . refine sT ?_
     refine zdn i rfl c2 (zw ?_)
     (refine cZ ?_;refine dL (hg l[i]) ?_)
     rw [ztt,zy3 c2]
   . refine sN ?_
     rw [ztt,zy50 (by omega)]
theorem ynv (l:List Span) (i j:Nat) (hij:i<=j) (hj:j<=l.length) (hb:l.length<2 ^ 40) :
 zao Tryz.prog 198 [.osl 1000 2 0 (l.map Span.row).length,i64 i,i64 j] (lk .free [(1000,.live (.row 199 2 (l.map Span.row)))])
  (.osl 1000 2 0 (l.length-(j-i))) (lk .free [(1000,.live (.row 199 2 ((l.take i++l.drop j).map Span.row++List.replicate (j-i) [pi 0,pi 0])))]):=by
 refine zan mixed Tryz.func198 zz4 [1000] zbj ?_;have hlr:(l.map Span.row).length=l.length:=by simp
 (conv=>whnf);refine sO ?_;by_cases h:i=j
 . subst h
   refine sT ?_;refine zam [(1000,some 1000)] rfl rfl ⟨rfl,trivial⟩ rfl ?_ ⟨⟨rfl,.inl ⟨1000,rfl,?_⟩⟩,trivial⟩
   . show HV.osl 1000 2 0 (l.length-(i-i))=HV.osl 1000 2 0 (l.map Span.row).length
     rw [hlr,zy98];rfl
   . show zad.live (.row _ 2 (l.map Span.row))=zad.live (.row _ 2 _)
     rw [zy23,zy98,zy141,zy7]
 . refine sN ?_
   refine sO ?_;refine sO ?_;refine ⟨_,rfl,?_,?_⟩
   . rw [hlr];omega
   (conv=>whnf);refine zaa zz3 ?_;(conv=>whnf);refine zbf ?_ ?_
   . kernel_rfl
   (conv=>whnf);refine zaa zz36 ?_;(conv=>whnf);refine zaa zz36 ?_;(conv=>whnf);refine zam [(1000,some 1000)] rfl rfl ⟨rfl,trivial⟩ rfl ?_ ⟨⟨rfl,.inl ⟨1000,rfl,?_⟩⟩,trivial⟩
   . show HV.osl 1000 2 0 _=HV.osl 1000 2 0 _
     congr 1;simp;omega
   . refine (congrArg (fun r=>zad.live (.row _ 2 r)) (zzl (rows:=l.map Span.row) (i:=i) (j:=j) (z:=[pi 0,pi 0]) hij (by rw [hlr];exact hj) ?_ ?_ ?_ ?_ ?_)).trans ?_
     . simp<;>omega
     . simp<;>omega
     . simp<;>omega
     . simp;omega
     . simp;omega
     . rw [zy34,zy119,zy102];rfl
theorem ywy (l:List Span) (i j:Nat) (hij:i<=j) (hj:j<=l.length) (hb:l.length<2 ^ 40) :
 zao Tryz.prog 198 [.own 1000,i64 i,i64 j] (lk .free [(1000,.live (.row 199 2 (l.map Span.row)))])
  (.own 0) (lk .free [(1000,.dead),(0,.live (.row 199 2 ((l.take i++l.drop j).map Span.row)))]):=by
 have h:=zjm (d:=0) (L:=[]) (rows:=(l.take i++l.drop j).map Span.row++List.replicate (j-i) [pi 0,pi 0]) (zuk (ynv l i j hij hj hb)) (.inl rfl) zz3 rfl zz4
 rwa [zy92 zz3] at h
theorem zin (a b:List Span) (x:Span) (i j:Int) (hi:i=a.length) (hj:j=a.length+1) (hb:(a++x::b).length<2 ^ 40) :
 zao Tryz.prog 198 [.own 1000,i64 i,i64 j] (lk .free [(1000,.live (.row 199 2 ((a++x::b).map Span.row)))])
  (.own 0) (lk .free [(1000,.dead),(0,.live (.row 199 2 ((a++b).map Span.row)))]):=by
 subst hi hj;have h:=ywy (a++x::b) a.length (a.length+1) zz0 zz5 hb
 rwa [zy151,show (a++x::b).drop (a.length+1)=b by rw [<- zy133,zy111];rfl,zy124] at h
theorem yhf {inp out:List Span} (a b:List Span) (x:Span) (i j:Int) (h1:inp=a++x::b) (h2:out=a++b) (hi:i=a.length) (hj:j=a.length+1) (hb:inp.length<2 ^ 40) :
 zao Tryz.prog 198 [.own 1000,i64 i,i64 j] (lk .free [(1000,.live (.row 199 2 (inp.map Span.row)))])
  (.own 0) (lk .free [(1000,.dead),(0,.live (.row 199 2 (out.map Span.row)))]):=by
 subst h1 h2;exact zin a b x i j hi hj hb
theorem xep {H:Nat->zad} {i1 i2 n o l:Nat} {t1 n1 t2 n2 c:Nat} {r1 r2:List (List PV)} (h1:H i1=.live (.row t1 n1 r1)) (h2:H i2=.live (.buf t2 n2 r2 c)) (hne:i1≠i2) :
 Ov Tryz.prog 204 [.own i1,.osl i2 n o l] H ⟨zbl false,[],[i1,i2]⟩:=by
 obtain ⟨inf,hi,hs⟩:=zy27.1 (show (Tryz.prog.info? 199).map (·.size)=some 2 by kernel_rfl);exact ⟨Tryz.f204,199,inf,_,_,i1,i2,_,_,Tryz.func204,rfl,by decide,by kernel_rfl,by kernel_rfl,⟨33,rfl,by kernel_rfl⟩,hi,by rw [hs];decide,rfl,.inl rfl,.inr ⟨_,_,_,rfl⟩,hne,h1,h2,by simp,by simp,rfl⟩
theorem ydz (l:List Span) (v:Span) (hb:l.length<2 ^ 40) :
 zao Tryz.prog 197 [.own 1000,i64 l.length,.own 1001] (lk .free [(1000,.live (.row 199 2 (l.map Span.row))),(1001,.live (.row 199 2 [v.row]))])
  (.own 0) (lk .free [(1000,.dead),(0,.live (.row 199 2 ((l++[v]).map Span.row))),(1001,.dead)]):=by
 refine zan mixed Tryz.func197 zz4 [1000,1001] (fun i=>by rcases zbj (L:=[(1000,zad.live (.row 199 2 (l.map Span.row))),(1001,.live (.row 199 2 [v.row]))]) i with h | h;exact .inl h;exact .inr h) ?_;have hlr:(l.map Span.row).length=l.length:=by simp
 (conv=>whnf);refine sO ?_;refine sT ?_;refine zaa (c:=((l.map Span.row).length+[v.row].length)*16<=140737488355328) zz3 (zw ?_);refine zam [(1000,some 1000),(0,some 25),(1001,some 1001)] rfl rfl ⟨rfl,rfl,trivial⟩ rfl rfl ⟨rfl,⟨rfl,.inl ⟨25,rfl,?_⟩⟩,rfl,trivial⟩;exact zca (f:=Span.row) rfl rfl
theorem yea (l:List Span) (k:Nat) (v:Span) (hk:k<l.length) (hb:l.length<2 ^ 40) :
 zao Tryz.prog 197 [.own 1000,i64 k,.own 1001] (lk .free [(1000,.live (.row 199 2 (l.map Span.row))),(1001,.live (.row 199 2 [v.row]))])
  (.own 0) (lk .free [(1000,.dead),(0,.live (.row 199 2 ((l.take k++v::l.drop k).map Span.row))),(1001,.dead)]):=by
 have hlr:(l.map Span.row).length=l.length:=by simp
 refine yrr (by intro h;rw [h] at hlr;simp at hlr;omega) fun cap hc1 hc2=>?_
 rw [hlr] at hc1;by_cases hc:l.length+1<=cap
 . have hw:=zjm (P:=Tryz.prog) (f:=197) (args:=[.osl 1000 2 0 (l.map Span.row).length,i64 k,.own 1001]) (H:=lk .free [(1000,.live (.buf 199 2 (l.map Span.row) cap)),(1001,.live (.row 199 2 [v.row]))])
    (id:=1000) (d:=0) (b:=.buf 199 2 ((l.take k++v::l.drop k).map Span.row) cap) (t:=199) (n:=2) (k:=l.length+1) (rows:=(l.take k++v::l.drop k).map Span.row) (L:=[(1001,.dead)]) ?_ (.inr ⟨cap,rfl⟩) zz3 rfl zz4
   . rwa [zy35 zz3] at hw
   refine zan mixed Tryz.func197 zz4 [1000,1001] (fun i=>by rcases zbj (L:=[(1000,zad.live (.buf 199 2 (l.map Span.row) cap)),(1001,.live (.row 199 2 [v.row]))]) i with h | h;exact .inl h;exact .inr h) ?_;(conv=>whnf);refine sO ?_;refine sN ?_;refine zat (z:=((l.map Span.row).length:Int)+1) (zbi zz0 zz0) (zw ?_);refine zaa zz0 (zw ?_);refine sN ?_;refine zat (z:=((l.map Span.row).length:Int)+1) (zbi zz0 zz0) (zw ?_);refine sO ?_;refine zbm (z':=((k+1:Nat):Int)) ?_ ?_
   . show W ((k:Int)+1)=_
     rw [zbi (by omega) (by omega)];push_cast;rfl
   (conv=>whnf);refine sO ?_;refine yxm (xep rfl rfl zz4) (zw ?_);refine zbm (z':=((k+1:Nat):Int)) ?_ ?_
   . show W ((k:Int)+1)=_
     rw [zbi (by omega) (by omega)];push_cast;rfl
   (conv=>whnf);refine sO ?_;refine sO ?_;refine zjf (o':=k) (n':=l.length-k) zz5 ?_ ?_
   . show min _ _=l.length-k
     simp;omega
   refine zor (l:=l) zz0 ?_;(conv=>whnf);refine sOm ?_;refine zbf ?_ ?_
   . kernel_rfl
   (conv=>whnf);refine sO ?_;refine zaa zz36 (zw ?_);refine zam [(1000,some 1000),(1001,some 1001)] rfl rfl ⟨rfl,rfl,trivial⟩ rfl ?_ ⟨⟨rfl,.inl ⟨1000,rfl,?_⟩⟩,rfl,trivial⟩
   . show HV.osl 1000 2 0 _=HV.osl 1000 2 0 _
     congr 1;simp
   . refine (congrArg (fun r=>zad.live (.buf _ 2 r cap)) (yxy (rows:=l.map Span.row) (k:=k) zz0 ?_ ?_ ?_ ?_)).trans ?_
     . simp<;>omega
     . rw [zy102]
     . simp<;>omega
     . simp<;>omega
     . refine congrArg (fun r=>zad.live (.buf _ 2 r cap)) (xhi (f:=Span.row) ?_)
       simp;omega
 . refine zan mixed Tryz.func197 zz4 [1000,1001] (fun i=>by rcases zbj (L:=[(1000,zad.live (.buf 199 2 (l.map Span.row) cap)),(1001,.live (.row 199 2 [v.row]))]) i with h | h;exact .inl h;exact .inr h) ?_
   (conv=>whnf);refine sO ?_;refine sN ?_;refine zat (z:=((l.map Span.row).length:Int)+1) (zbi zz0 zz0) (zw ?_);refine zaa zz0 (zw ?_);refine sT ?_;refine sO ?_;refine zat (z:=((l.map Span.row).length:Int)+1) (zbi zz0 zz0) (zw ?_);refine zbm (z':=((l.length+1-k:Nat):Int)) ?_ ?_
   . show W (((l.map Span.row).length:Int)+1-k)=_
     rw [zbi (by omega) (by omega)];omega
   (conv=>whnf);refine zaa (show 0<=_/\_<=_/\_<_/\_<=_/\(_:Int)*16<=(140737488355328:Int) from ?_) ?_
   . simp;omega
   (conv=>whnf);refine zaa ?_ ?_
   . simp;omega
   (conv=>whnf);refine zaa zz36 (zw ?_);refine zbm (z':=((k+1:Nat):Int)) ?_ ?_
   . show W ((k:Int)+1)=_
     rw [zbi (by omega) (by omega)];push_cast;rfl
   (conv=>whnf);refine zaa zz36 (zw ?_);refine zaa zz36 (zw ?_);refine zjf (o':=k) (n':=l.length-k) zz5 ?_ ?_
   . show min _ _=l.length-k
     simp [zcm];omega
   refine zor (l:=l) zz0 ?_;(conv=>whnf);refine zaa zz36 (zw ?_);refine zbf ?_ ?_
   . kernel_rfl
   (conv=>whnf);refine zam [(1000,some 1000),(0,some 40),(1001,some 1001)] rfl rfl ⟨rfl,rfl,trivial⟩ rfl rfl ⟨rfl,⟨rfl,.inl ⟨40,rfl,?_⟩⟩,rfl,trivial⟩;refine (congrArg (fun r=>zad.live (.row _ 2 r)) (yxx (rows:=l.map Span.row) (k:=k) zz0 ?_ ?_ ?_ ?_ ?_)).trans ?_
   . simp
   . simp
   . simp;omega
   . simp
   . rw [zy102]
   . refine congrArg (fun r=>zad.live (.row _ 2 r)) (xhi (f:=Span.row) ?_)
     simp;omega
theorem yib (a b:List Span) (v:Span) (k:Int) (hk:k=a.length) (hb:(a++b).length<2 ^ 40) :
 zao Tryz.prog 197 [.own 1000,i64 k,.own 1001] (lk .free [(1000,.live (.row 199 2 ((a++b).map Span.row))),(1001,.live (.row 199 2 [v.row]))])
  (.own 0) (lk .free [(1000,.dead),(0,.live (.row 199 2 ((a++v::b).map Span.row))),(1001,.dead)]):=by
 subst hk;cases b with
 | nil =>
  rw [zy7] at hb ⊢;exact ydz a v hb
 | cons x b =>
  have h:=yea (a++x::b) a.length v zz5 hb
  rwa [zy151,zy111] at h
namespace Snd
open Ser
theorem xgj (l:List zaf) (i j:Nat) (hij:i<=j) (hj:j<=l.length) (hb:l.length<2 ^ 40) :
 zao Tryz.prog 139 [.osl 1000 10 0 (l.map zaf.row).length,i64 i,i64 j] (lk .free [(1000,.live (.row 117 10 (l.map zaf.row)))])
  (.osl 1000 10 0 (l.length-(j-i))) (lk .free [(1000,.live (.row 117 10 ((l.take i++l.drop j).map zaf.row++List.replicate (j-i) [pi 0,pi 0,pi 0,pi 0,pi 0,pi 0,pb false,pi 0,pi 0,.v (.slice none 0 0)])))]):=by
 refine zan mixed Tryz.func139 zz4 [1000] zbj ?_;have hlr:(l.map zaf.row).length=l.length:=by simp
 (conv=>whnf);refine sO ?_;by_cases h:i=j
 . subst h
   refine sT ?_;refine zam [(1000,some 1000)] rfl rfl ⟨rfl,trivial⟩ rfl ?_ ⟨⟨rfl,.inl ⟨1000,rfl,?_⟩⟩,trivial⟩
   . show HV.osl 1000 10 0 (l.length-(i-i))=HV.osl 1000 10 0 (l.map zaf.row).length
     rw [hlr,zy98];rfl
   . show zad.live (.row _ 10 (l.map zaf.row))=zad.live (.row _ 10 _)
     rw [zy23,zy98,zy141,zy7]
 . refine sN ?_
   refine sO ?_;refine sO ?_;refine ⟨_,rfl,?_,?_⟩
   . rw [hlr];omega
   (conv=>whnf);refine zaa zz3 ?_;(conv=>whnf);refine zbf ?_ ?_
   . kernel_rfl
   (conv=>whnf);refine zaa zz36 ?_;(conv=>whnf);refine zaa zz36 ?_;(conv=>whnf);refine zam [(1000,some 1000)] rfl rfl ⟨rfl,trivial⟩ rfl ?_ ⟨⟨rfl,.inl ⟨1000,rfl,?_⟩⟩,trivial⟩
   . show HV.osl 1000 10 0 _=HV.osl 1000 10 0 _
     congr 1;simp;omega
   . refine (congrArg (fun r=>zad.live (.row _ 10 r)) (zzl (rows:=l.map zaf.row) (i:=i) (j:=j) (z:=[pi 0,pi 0,pi 0,pi 0,pi 0,pi 0,pb false,pi 0,pi 0,.v (.slice none 0 0)]) hij (by rw [hlr];exact hj) ?_ ?_ ?_ ?_ ?_)).trans ?_
     . simp<;>omega
     . simp<;>omega
     . simp<;>omega
     . simp;omega
     . simp;omega
     . rw [zy34,zy119,zy102];rfl
theorem xfs (l:List zaf) (i j:Nat) (hij:i<=j) (hj:j<=l.length) (hb:l.length<2 ^ 40) :
 zao Tryz.prog 139 [.own 1000,i64 i,i64 j] (lk .free [(1000,.live (.row 117 10 (l.map zaf.row)))])
  (.own 0) (lk .free [(1000,.dead),(0,.live (.row 117 10 ((l.take i++l.drop j).map zaf.row)))]):=by
 have h:=zjm (d:=0) (L:=[]) (rows:=(l.take i++l.drop j).map zaf.row++List.replicate (j-i) [pi 0,pi 0,pi 0,pi 0,pi 0,pi 0,pb false,pi 0,pi 0,.v (.slice none 0 0)]) (zuk (xgj l i j hij hj hb)) (.inl rfl) zz3 rfl zz4
 rwa [zy92 zz3] at h
theorem zjy (s:zja) (m:zaf) (bytes:Int) (yqm:Bool) (hb:s.had.length<2 ^ 40) (c2:0<=m.message.stream) (c3:m.message.stream<s.had.length) :
 zao Tryz.prog 138 [s.hv,m.hv,i64 bytes,zbl yqm] zae (.agg [i64 (Sch.had s m bytes yqm).last,i64 (Sch.had s m bytes yqm).hand,.own 0]) (lk .free [(0,ypc (Sch.had s m bytes yqm).had)]):=by
 have hy:(s.had.map fun n=>[pi n]).set m.message.stream.toNat [pi (W (s.had[m.message.stream.toNat]+bytes))]=(Sch.had s m bytes yqm).had.map fun n=>[pi n]:=by
  simp only [Sch.had,zy1 (And.intro c2 c3)];rw [zy107,zy3 (by omega)]
  rfl
 refine zan mixed Tryz.func138 zz4 [] (fun _=>.inl rfl) ?_;(conv=>whnf)
 (refine zas [(0,11)] ?_;(conv=>whnf);refine dO (Sch.zdc s hb) ?_)
 refine sD ?_;refine zah (fun c1=>?_) (fun c1=>?_)
 all_goals
  subst c1;(conv=>whnf)
  repeat refine sG ?_
  refine zai ?_ ?_
  . simpa using c2
  (conv=>whnf);refine zai ?_ ?_
  . simpa using c3
  conv=>whnf
  repeat refine sG ?_
  refine sOm ?_;refine zbt (r:=[pi s.had[m.message.stream.toNat]]) zz0 (by rw [zy38,zy11,zy3 (h:=show m.message.stream.toNat<s.had.length by omega)];rfl) ?_;(conv=>whnf);refine zcq (zw ?_);refine sOm ?_;refine zbt (r:=[pi s.had[m.message.stream.toNat]]) zz0 (by rw [zy38,zy11,zy3 (h:=show m.message.stream.toNat<s.had.length by omega)];rfl) ?_;(conv=>whnf);refine zam [(0,some 11)] rfl rfl trivial rfl rfl ⟨⟨rfl,.inl ⟨11,rfl,?_⟩⟩,trivial⟩;exact zaq hy
theorem yst {α:Type} {p:α->Bool}:∀ {l:List α} {k:Nat},0<=zbr p k l->∃ i,i<l.length/\zbr p k l=((k+i:Nat):Int)
 | [],k,h=>by simp [zbr] at h
 | y::r,k,h=>by
  simp only [zbr] at h ⊢;split at h
  . rename_i hp;exact ⟨0,by simp,by rw [zy1 hp];simp⟩
  . rename_i hp
    obtain ⟨i,h1,h2⟩:=yst h;exact ⟨i+1,by simp;omega,by rw [zy0 hp,h2];congr 1;omega⟩
theorem yjj {t:Int} {s:zja} {q:List zaf} (h:0<=Sch.next t s q):∃ k:Nat,k<q.length/\Sch.next t s q=k:=by
 have hf:∀ st,0<=Sch.first q st->∃ k:Nat,k<q.length/\Sch.first q st=k:=fun st h=>by
  obtain ⟨i,h1,h2⟩:=yst h;exact ⟨i,h1,by rw [Sch.first,h2];simp⟩
 have ha:∀ (j k:Nat) (last n:Int),0<=Sch.after q last n k j->∃ i:Nat,i<q.length/\Sch.after q last n k j=i:=by
  intro j
  induction j with
  | zero=>intro k last n h;simp [Sch.after] at h
  | succ j ih =>
   intro k last n h;rw [Sch.after] at h ⊢;split at h
   . rename_i c;rw [zy1 c];exact hf _ h
   . rename_i c;rw [zy0 c];exact ih _ _ _ h
 have hr:∀ (j k:Nat),0<=Sch.zfg q k j->∃ i:Nat,i<q.length/\Sch.zfg q k j=i:=by
  intro j
  induction j with
  | zero=>intro k h;simp [Sch.zfg] at h
  | succ j ih =>
   intro k h;rw [Sch.zfg] at h ⊢;split at h
   . rename_i c;rw [zy1 c];exact hf _ h
   . rename_i c;rw [zy0 c];exact ih _ h
 unfold Sch.next at h ⊢;split at h
 . omega
 rename_i c0;rw [zy0 c0];split at h
 . omega
 rename_i c1;rw [zy0 c1];split at h
 . rename_i c;rw [zy1 c]
   split at h
   . rename_i c;rw [zy1 c];obtain ⟨i,h1,h2⟩:=yst h;exact ⟨i,h1,by rw [Sch.ydx,h2];simp⟩
   . rename_i c;rw [zy0 c];exact ha _ _ _ _ h
 rename_i c;rw [zy0 c];split at h
 . rename_i c;rw [zy1 c];exact ha _ _ _ _ h
 rename_i c;rw [zy0 c];split at h
 . rename_i c;rw [zy1 c];exact hr _ _ h
 rename_i c;rw [zy0 c];split at h
 . rename_i c;rw [zy1 c];unfold Sch.least at h ⊢
   split at h
   . omega
   . rename_i c;rw [zy0 c];exact hf _ h
 . rename_i c;rw [zy0 c];exact ⟨0,by omega,rfl⟩
structure zth (s:zab) (m:zaf):Prop where
 mid:xii s m
 had:m.message.stream<s.sched.had.length
 sent:0<=m.sent
 left:m.sent<m.message.data.length
 data:m.message.data.length<2 ^ 30
structure xga (s:zab):Prop where
 g:yjl s
 some:0<s.paths.length
 part:1<=s.config.part
 part2:s.config.part<2 ^ 30
 msg:∀ m∈s.queue,zth s m
def nx (s:zab) (o:List (List Chunk)):zgl×Bool:=match next ⟨s,o⟩ with
 | none=>(⟨s,o⟩,false)
 | some q=>(q,true)
theorem ytn {s:zab} {o:List (List Chunk)} (h:zdl s<0):nx s o=(⟨s,o⟩,false):=by
 rw [nx,next,zy1 (.inl h)]
theorem yto {s:zab} {o:List (List Chunk)} {w:Path} (hw:s.paths[choose s]?=some w) (h:¬ w.zak<w.window):nx s o=(⟨s,o⟩,false):=by
 rw [nx,next,zy1 (.inr (.inl (by simp only [opened,hw];simpa using h)))]
theorem ytp {s:zab} {o:List (List Chunk)} (h:(s.out.length:Int)>=60):nx s o=(⟨s,o⟩,false):=by
 rw [nx,next,zy1 (.inr (.inr h))]
theorem ytq {s:zab} {o:List (List Chunk)} {w:Path} {k:Nat} {m:zaf} (h1:zdl s=k) (hm:s.queue[k]?=some m) (hw:s.paths[choose s]?=some w) (h2:w.zak<w.window) (h3:¬ (s.out.length:Int)>=60) (h4:zak s>0/\W (zak s+many s m)>s.room) :
 nx s o=(⟨s,o⟩,false):=by
 rw [nx,next,zy0 (by rw [h1];rintro (h | h | h);omega;(simp only [opened,hw] at h;simp at h;omega);exact h3 h)];simp only [h1,zy38,hm];rw [zy1 h4]
theorem zxy {s:zab} {o:List (List Chunk)} {w:Path} {k:Nat} {m:zaf} (h1:zdl s=k) (hm:s.queue[k]?=some m) (hw:s.paths[choose s]?=some w) (h2:w.zak<w.window) (h3:¬ (s.out.length:Int)>=60) (h4:¬ (zak s>0/\W (zak s+many s m)>s.room)) :
 nx s o=(yil ⟨s,o⟩ k m (many s m),true):=by
 rw [nx,next,zy0 (by rw [h1];rintro (h | h | h);omega;(simp only [opened,hw] at h;simp at h;omega);exact h3 h)];simp only [h1,zy38,hm];rw [zy0 h4]
theorem zut {s:zab} {m:zaf} (hp:1<=s.config.part) (hp2:s.config.part<2 ^ 30) (_:0<=m.sent) (h2:m.sent<m.message.data.length) (_:m.message.data.length<2 ^ 30):1<=many s m/\many s m<2 ^ 30/\m.sent+many s m<=m.message.data.length:=by
 unfold many;split<;>omega
abbrev ovr (s:zab) (m:zaf):Bool:=m.sent+many s m==((m.message.data.map zdv).length:Int)
theorem xbi (s:zab) (m:zaf):decide (m.sent+many s m=m.message.data.length)=ovr s m:=by
 unfold ovr;rw [zy2,zy142];simp
def m2 (s:zab) (m:zaf):zaf:={m with mid:=zcd s m,sent:=m.sent+many s m,parts:=W (m.parts+1)}
def x0 (s:zab) (m:zaf):zbs:=⟨s.next,m.id,0,0,0,0,m.came,m.message.life,m.message.tries,⟨1,tag s.next,m.message.stream,tag (zcd s m),m.parts,ovr s m,m.message.ordered,(m.message.data.drop m.sent.toNat).take (many s m).toNat,[],0,[]⟩⟩
def s2 (s:zab) (k:Nat) (m:zaf):zab:={s with mids:=zdr s m,sched:=Sch.had s.sched {m with mid:=zcd s m} (many s m) (ovr s m),out:=s.out++[x0 s m],next:=W (s.next+1),queue:=s.queue.set k (m2 s m)}
theorem zff {s:zab} {o:List (List Chunk)} {k c:Nat} {m:zaf} {w:Path} {l:List Chunk} (hc:choose s=c) (hw:s.paths[c]?=some w) (hl:o[c]?=some l) :
 yil ⟨s,o⟩ k m (many s m)=⟨{yda (s2 s k m) s.out.length c (x0 s m) w with queue:=if ovr s m then s.queue.eraseIdx k else s.queue.set k (m2 s m)},o.set c (l++[(x0 s m).chunk])⟩:=by
 have e:=xbi s m;unfold yil cut;simp only [e];rw [hc];exact xat (s:={s2 s k m with queue:=if ovr s m then s.queue.eraseIdx k else s.queue.set k (m2 s m)}) (i:=s.out.length) (x:=x0 s m) (a:=w) (l:=l) zz79 hw hl
theorem ypb {s:zab} {k:Nat} {m:zaf} {t:TypeId} {r1:List PV}:zad.live (.row t 10 ((((zhy s k m).queue.map zaf.row).set k r1).set k (m2 s m).row))=zad.live (.row t 10 ((s2 s k m).queue.map zaf.row)):=by
 rw [zy147];exact (zer (f:=zaf.row) (y:=m2 s m) rfl).trans (zaq (by show ((s.queue.set k _).set k _).map _=_;rw [zy147];rfl))
theorem zjl {α:Type} {l:List α} {k:Nat} {y:α} (_:k<l.length):(l.set k y).take k++(l.set k y).drop (k+1)=l.eraseIdx k:=by
 rw [zy86,List.take_set_of_le (zy20 _),List.drop_set_of_lt (zy156 _)]
theorem zrb (s:zab) (a:List Chunk) (hs:xga s) (h1p:s.paths.length=1) (hb:a.length<2 ^ 29):zao Tryz.prog 96 [.ptr 1000 0] (lk .free (pH1 s a)) (zbl (nx s [a]).2) (lk .free (pD1 (nx s [a]).1.s (xbd (nx s [a]).1.out))):=by
 obtain ⟨g,hp,hp1,hp2,hmsg⟩:=hs;obtain ⟨⟨f1,f2,f3,f4,f5,f6,f7⟩,g2,g3,g4⟩:=g;obtain ⟨hch,hch2⟩:=zed hp;have hc0:choose s=0:=by omega
 have pc:=Paths.zef s.paths zz0;rw [hch,hc0] at pc;have pn:=Sch.zvs s.config.turns s.sched s.queue zz0 zz0;obtain ⟨w,hw⟩:∃ w,s.paths[0]?=some w:=⟨_,zy3 zz0⟩
 have hwc:s.paths[choose s]?=some w:=by rw [hc0];exact hw
 generalize hG:nx s [a]=G;refine zan mixed Tryz.func96 zz4 [1000,1001,1002,1003,1004,1005,1006,1007,1008] zbj ?_;(conv=>whnf)
 (refine cL ?_;refine dL pc ?_)
 by_cases c1:zdl s<0
 case pos =>
  (refine cL ?_;refine dL pn ?_)
  refine sD ?_;refine zai ?_ ?_
  . exact zy15 c1
  (conv=>whnf);rw [ytn c1] at hG;exact yy21
 obtain ⟨k,hkl,hke⟩:=yjj (t:=s.config.turns) (s:=s.sched) (q:=s.queue) zz93;have hke':zdl s=k:=hke;rw [hke] at pn;obtain ⟨m,hm⟩:∃ m,s.queue[k]?=some m:=⟨_,zy3 hkl⟩
 have hmf:=hmsg m (zy9 hm);obtain ⟨mf,mh,ms,ml,md⟩:=hmf;obtain ⟨n1,n2,n3⟩:=zut (s:=s) (m:=m) hp1 hp2 ms ml md
 (refine cL ?_;refine dL pn ?_)
 refine sD ?_
 try (refine zag ?_ ?_;· simp;conv=>whnf)
 refine sOm ?_;refine zaj hw rfl (zw ?_)
 (refine cL ?_;refine dL (Paths.zka w) ?_)
 by_cases c2:w.zak<w.window
 case neg =>
  refine zai ?_ ?_
  . simpa using c2
  (conv=>whnf);rw [yto hwc c2] at hG;exact yy21
 refine zag ?_ ?_
 . simpa using c2
 (conv=>whnf);by_cases c3:(s.out.length:Int)>=60
 case pos =>
  refine zai ?_ ?_
  . rw [zy2];exact zy15 c3
  (conv=>whnf);rw [ytp c3] at hG;exact yy21
 refine zag ?_ ?_
 . rw [zy2];exact zy18 c3
 conv=>whnf
 repeat refine sG ?_
 refine sOm ?_;refine zaj hm rfl (zw ?_);refine zaj hm rfl (zw ?_);refine zbm (z':=(m.message.data.length:Int)-m.sent) ?_ ?_
 . show W _=_
   rw [zy2];exact zbi zz0 zz0
 (conv=>whnf);refine sD ?_
 (refine zac [] [(1000,1000),(1001,1001),(1002,1002),(1003,1003),(1004,1004),(1005,1005),(1006,1006),(1007,1007),(1008,1008)] [] ?_;(conv=>whnf);refine dG (yga s a f4) ?_)
 have hWs:W (m.sent+many s m)=m.sent+many s m:=zbi zz0 zz0;by_cases c4:zak s>0
 case pos =>
  refine zai ?_ ?_
  . exact zy15 c4
  (conv=>whnf);refine sR ?_;by_cases c5:W (zak s+many s m)>s.room
  case pos =>
   refine zai ?_ ?_
   . exact zy15 c5
   (conv=>whnf);rw [ytq hke' hm hwc c2 c3 ⟨c4,c5⟩] at hG;exact yy21
  refine zag ?_ ?_
  . exact zy18 c5
  conv=>whnf
  repeat refine sG ?_
  rw [zxy hke' hm hwc c2 c3 fun h=>c5 h.2] at hG;exact yy2
 refine zag ?_ ?_
 . exact zy18 c4
 conv=>whnf
 repeat refine sG ?_
 rw [zxy hke' hm hwc c2 c3 fun h=>c4 h.1] at hG;exact yy2
end Snd
namespace Snd
open Ser
theorem yge (s:zab) (a b:List Chunk) (hs:xga s) (h1p:s.paths.length=2) (hc0:choose s=0) (hb:a.length+b.length<2 ^ 29):zao Tryz.prog 96 [.ptr 1000 0] (lk .free (pH2 s a b)) (zbl (nx s [a,b]).2) (lk .free (pD2 (nx s [a,b]).1.s (xbd (nx s [a,b]).1.out) (xha (nx s [a,b]).1.out))):=by
 obtain ⟨g,hp,hp1,hp2,hmsg⟩:=hs;obtain ⟨⟨f1,f2,f3,f4,f5,f6,f7⟩,g2,g3,g4⟩:=g;obtain ⟨hch,hch2⟩:=zed hp;have pc:=Paths.zef s.paths zz0;rw [hch,hc0] at pc;have pn:=Sch.zvs s.config.turns s.sched s.queue zz0 zz0;obtain ⟨w,hw⟩:∃ w,s.paths[0]?=some w:=⟨_,zy3 zz0⟩
 have hwc:s.paths[choose s]?=some w:=by rw [hc0];exact hw
 generalize hG:nx s [a,b]=G;refine zan mixed Tryz.func96 zz4 [1000,1001,1002,1003,1004,1005,1006,1007,1008,1009] zbj ?_;(conv=>whnf)
 (refine cL ?_;refine dL pc ?_)
 by_cases c1:zdl s<0
 case pos =>
  (refine cL ?_;refine dL pn ?_)
  refine sD ?_;refine zai ?_ ?_
  . exact zy15 c1
  (conv=>whnf);rw [ytn c1] at hG;exact yy9
 obtain ⟨k,hkl,hke⟩:=yjj (t:=s.config.turns) (s:=s.sched) (q:=s.queue) zz93;have hke':zdl s=k:=hke;rw [hke] at pn;obtain ⟨m,hm⟩:∃ m,s.queue[k]?=some m:=⟨_,zy3 hkl⟩
 have hmf:=hmsg m (zy9 hm);obtain ⟨mf,mh,ms,ml,md⟩:=hmf;obtain ⟨n1,n2,n3⟩:=zut (s:=s) (m:=m) hp1 hp2 ms ml md
 (refine cL ?_;refine dL pn ?_)
 refine sD ?_
 try (refine zag ?_ ?_;· simp;conv=>whnf)
 refine sOm ?_;refine zaj hw rfl (zw ?_)
 (refine cL ?_;refine dL (Paths.zka w) ?_)
 by_cases c2:w.zak<w.window
 case neg =>
  refine zai ?_ ?_
  . simpa using c2
  (conv=>whnf);rw [yto hwc c2] at hG;exact yy9
 refine zag ?_ ?_
 . simpa using c2
 (conv=>whnf);by_cases c3:(s.out.length:Int)>=60
 case pos =>
  refine zai ?_ ?_
  . rw [zy2];exact zy15 c3
  (conv=>whnf);rw [ytp c3] at hG;exact yy9
 refine zag ?_ ?_
 . rw [zy2];exact zy18 c3
 conv=>whnf
 repeat refine sG ?_
 refine sOm ?_;refine zaj hm rfl (zw ?_);refine zaj hm rfl (zw ?_);refine zbm (z':=(m.message.data.length:Int)-m.sent) ?_ ?_
 . show W _=_
   rw [zy2];exact zbi zz0 zz0
 (conv=>whnf);refine sD ?_
 (refine zac [] [(1000,1000),(1001,1001),(1002,1002),(1003,1003),(1004,1004),(1005,1005),(1006,1006),(1007,1007),(1008,1008),(1009,1009)] [] ?_;(conv=>whnf);refine dG (zsf s a b f4) ?_)
 have hWs:W (m.sent+many s m)=m.sent+many s m:=zbi zz0 zz0;by_cases c4:zak s>0
 case pos =>
  refine zai ?_ ?_
  . exact zy15 c4
  (conv=>whnf);refine sR ?_;by_cases c5:W (zak s+many s m)>s.room
  case pos =>
   refine zai ?_ ?_
   . exact zy15 c5
   (conv=>whnf);rw [ytq hke' hm hwc c2 c3 ⟨c4,c5⟩] at hG;exact yy9
  refine zag ?_ ?_
  . exact zy18 c5
  conv=>whnf
  repeat refine sG ?_
  rw [zxy hke' hm hwc c2 c3 fun h=>c5 h.2] at hG;exact yy0
 refine zag ?_ ?_
 . exact zy18 c4
 conv=>whnf
 repeat refine sG ?_
 rw [zxy hke' hm hwc c2 c3 fun h=>c4 h.1] at hG;exact yy0
end Snd
namespace Snd
open Ser
theorem ygf (s:zab) (a b:List Chunk) (hs:xga s) (h1p:s.paths.length=2) (hc0:choose s=1) (hb:a.length+b.length<2 ^ 29):zao Tryz.prog 96 [.ptr 1000 0] (lk .free (pH2 s a b)) (zbl (nx s [a,b]).2) (lk .free (pD2 (nx s [a,b]).1.s (xbd (nx s [a,b]).1.out) (xha (nx s [a,b]).1.out))):=by
 obtain ⟨g,hp,hp1,hp2,hmsg⟩:=hs;obtain ⟨⟨f1,f2,f3,f4,f5,f6,f7⟩,g2,g3,g4⟩:=g;obtain ⟨hch,hch2⟩:=zed hp;have pc:=Paths.zef s.paths zz0;rw [hch,hc0] at pc;have pn:=Sch.zvs s.config.turns s.sched s.queue zz0 zz0;obtain ⟨w,hw⟩:∃ w,s.paths[1]?=some w:=⟨_,zy3 zz0⟩
 have hwc:s.paths[choose s]?=some w:=by rw [hc0];exact hw
 generalize hG:nx s [a,b]=G;refine zan mixed Tryz.func96 zz4 [1000,1001,1002,1003,1004,1005,1006,1007,1008,1009] zbj ?_;(conv=>whnf)
 (refine cL ?_;refine dL pc ?_)
 by_cases c1:zdl s<0
 case pos =>
  (refine cL ?_;refine dL pn ?_)
  refine sD ?_;refine zai ?_ ?_
  . exact zy15 c1
  (conv=>whnf);rw [ytn c1] at hG;exact yy9
 obtain ⟨k,hkl,hke⟩:=yjj (t:=s.config.turns) (s:=s.sched) (q:=s.queue) zz93;have hke':zdl s=k:=hke;rw [hke] at pn;obtain ⟨m,hm⟩:∃ m,s.queue[k]?=some m:=⟨_,zy3 hkl⟩
 have hmf:=hmsg m (zy9 hm);obtain ⟨mf,mh,ms,ml,md⟩:=hmf;obtain ⟨n1,n2,n3⟩:=zut (s:=s) (m:=m) hp1 hp2 ms ml md
 (refine cL ?_;refine dL pn ?_)
 refine sD ?_
 try (refine zag ?_ ?_;· simp;conv=>whnf)
 refine sOm ?_;refine zaj hw rfl (zw ?_)
 (refine cL ?_;refine dL (Paths.zka w) ?_)
 by_cases c2:w.zak<w.window
 case neg =>
  refine zai ?_ ?_
  . simpa using c2
  (conv=>whnf);rw [yto hwc c2] at hG;exact yy9
 refine zag ?_ ?_
 . simpa using c2
 (conv=>whnf);by_cases c3:(s.out.length:Int)>=60
 case pos =>
  refine zai ?_ ?_
  . rw [zy2];exact zy15 c3
  (conv=>whnf);rw [ytp c3] at hG;exact yy9
 refine zag ?_ ?_
 . rw [zy2];exact zy18 c3
 conv=>whnf
 repeat refine sG ?_
 refine sOm ?_;refine zaj hm rfl (zw ?_);refine zaj hm rfl (zw ?_);refine zbm (z':=(m.message.data.length:Int)-m.sent) ?_ ?_
 . show W _=_
   rw [zy2];exact zbi zz0 zz0
 (conv=>whnf);refine sD ?_
 (refine zac [] [(1000,1000),(1001,1001),(1002,1002),(1003,1003),(1004,1004),(1005,1005),(1006,1006),(1007,1007),(1008,1008),(1009,1009)] [] ?_;(conv=>whnf);refine dG (zsf s a b f4) ?_)
 have hWs:W (m.sent+many s m)=m.sent+many s m:=zbi zz0 zz0;by_cases c4:zak s>0
 case pos =>
  refine zai ?_ ?_
  . exact zy15 c4
  (conv=>whnf);refine sR ?_;by_cases c5:W (zak s+many s m)>s.room
  case pos =>
   refine zai ?_ ?_
   . exact zy15 c5
   (conv=>whnf);rw [ytq hke' hm hwc c2 c3 ⟨c4,c5⟩] at hG;exact yy9
  refine zag ?_ ?_
  . exact zy18 c5
  conv=>whnf
  repeat refine sG ?_
  rw [zxy hke' hm hwc c2 c3 fun h=>c5 h.2] at hG;exact yy1
 refine zag ?_ ?_
 . exact zy18 c4
 conv=>whnf
 repeat refine sG ?_
 rw [zxy hke' hm hwc c2 c3 fun h=>c4 h.1] at hG;exact yy1
theorem ypo (s:zab) (a b:List Chunk) (hs:xga s) (h1p:s.paths.length=2) (hb:a.length+b.length<2 ^ 29):zao Tryz.prog 96 [.ptr 1000 0] (lk .free (pH2 s a b)) (zbl (nx s [a,b]).2) (lk .free (pD2 (nx s [a,b]).1.s (xbd (nx s [a,b]).1.out) (xha (nx s [a,b]).1.out))):=by
 have hc01:choose s=0\/choose s=1:=by have:=(zed hs.some).2;omega
 exact hc01.elim (fun h=>yge s a b hs h1p h hb) fun h=>ygf s a b hs h1p h hb
end Snd
namespace Snd
open Ser
abbrev zju (l:List zaz):zad:=.live (.row 110 3 (l.map zaz.row))
abbrev roK (l:List Chunk):zad:=.ro (.row 61 11 (l.map Chunk.row))
def xix (id:Nat):List Chunk->List Chunk->HV
 | [],_=>.own id
 | _::a,b=>.osl id 11 (a.length+1) b.length
theorem zos {α:Type} {f:α->List PV} {l a b c:List α} {o n:Nat} {K:List (List PV)->Prop} (h:l=a++b++c) (ho:o=a.length) (hn:n=b.length) (hk:K (b.map f)):zrt (l.map f) o n K:=by
 subst h ho hn;refine ⟨_,rfl,by simp,?_⟩
 rwa [<- zy102,<- zy119,zy31,zy111,zy151]
theorem zhh {i s o o' n n':Nat} (ho:o=o') (hn:n=n'):HV.osl i s o n=.osl i s o' n':=by rw [ho,hn]
theorem yit {most:Int} {l:List Chunk} (h:l≠[]):∃ k:Nat,zce most l=k/\1<=k/\k<=l.length:=by
 obtain ⟨r,h1,h2,-⟩:=Pck.xde l most;have h3:=zy30.2 h;have h4:=h2.1;unfold zce;rw [h1];split
 . exact ⟨1,rfl,by omega,by omega⟩
 . exact ⟨r,rfl,by omega,by omega⟩
theorem zuz (most path:Int) (n:Nat):zgo most path n []=[]:=by cases n<;>simp [zgo]
def Okc (c:Chunk):Prop:=c.zau.length<2 ^ 38/\c.zbx.length<2 ^ 38
abbrev pE1 (s:zab) (ps:List zaz):List (Nat×zad):=(1000,.live (.cells 139 (ywj s (.own 1001) (.own 1002) (.own 1003) (.own 1004) (.own 1005) (.own 1006) (.own 1007))))::zyl s 1001 1002 1003 1004 1005 1006 [(1007,.dead),(1008,.dead),(0,zju ps)]
abbrev pR1 (s:zab) (a:List Chunk) (L:List (Nat×zad)):List (Nat×zad):=(1000,.live (.cells 139 (ywj s (.own 1001) (.own 1002) (.own 1003) (.own 1004) (.own 1005) (.own 1006) (.own 1007))))::zyl s 1001 1002 1003 1004 1005 1006 ((1007,.live (.cells 145 [.own 1008]))::(1008,roK a)::L)
abbrev pE2 (s:zab) (ps:List zaz):List (Nat×zad):=(1000,.live (.cells 139 (ywj s (.own 1001) (.own 1002) (.own 1003) (.own 1004) (.own 1005) (.own 1006) (.own 1007))))::zyl s 1001 1002 1003 1004 1005 1006 [(1007,.dead),(1008,.dead),(1009,.dead),(0,zju ps)]
abbrev pR2 (s:zab) (a b:List Chunk) (L:List (Nat×zad)):List (Nat×zad):=(1000,.live (.cells 139 (ywj s (.own 1001) (.own 1002) (.own 1003) (.own 1004) (.own 1005) (.own 1006) (.own 1007))))::zyl s 1001 1002 1003 1004 1005 1006 ((1007,.live (.cells 145 [.own 1008,.own 1009]))::(1008,roK a)::(1009,roK b)::L)
theorem ybp (s:zab) (a:List Chunk) (hm:inI s.config.packet) (ha:a.length<2 ^ 29) (hka:∀ c∈a,Okc c):zao Tryz.prog 97 [.ptr 1000 0] (lk .free (pH1 s a)) (.own 0) (lk .free (pE1 s (zby s.config.packet 0 [a]))):=by
 generalize hT:zby s.config.packet 0 [a]=T;refine zan mixed Tryz.func97 zz4 [1000,1001,1002,1003,1004,1005,1006,1007,1008] zbj ?_;(conv=>whnf);refine ⟨{x:Nat×List zaz // x.1<=1/\x.2.length<=x.1*2 ^ 29/\x.2++zby s.config.packet x.1 ([a].drop x.1)=T},
  fun | ⟨(i,acc),_⟩=>hsP [1000,1001,1002,1003,1004,1005,1006,1007,1008] 57 [(0,.ptr 1000 0),(3,.own 900),(12,.own 1007),(13,i64 1),(14,i64 i)] (pR1 s a [(900,zju acc)]),fun x=>1-x.1.1,⟨(0,[]),by dsimp only;omega,by simp,hT⟩,?_,?_⟩
 . exact (zcx (pK9 [(900,none)]))
 rintro ⟨⟨i,acc⟩,k1,k3,k2⟩;dsimp only at k1 k2 k3;refine zge fun Q hQ=>?_
 have hi:i=0\/i=1:=by omega
 rcases hi with rfl | rfl
 case inl =>
  have hdr:zby s.config.packet 0 ([a].drop 0)=zgo s.config.packet 0 a.length a++zby s.config.packet (0+1) ([a].drop (0+1)):=rfl;rw [hdr] at k2;(conv=>whnf);refine ⟨0,rfl,by decide,zw ?_⟩;refine ⟨{x:(List Chunk×List Chunk)×Nat×List zaz // a=x.1.1++x.1.2/\x.1.2.length<=x.2.1/\x.2.2.length+x.1.2.length<=(0+1)*2 ^ 29/\x.2.2++(zgo s.config.packet 0 x.2.1 x.1.2++zby s.config.packet (0+1) ([a].drop (0+1)))=T},
   fun | ⟨((A,B),n,acc),_⟩=>hsP [1000,1001,1002,1003,1004,1005,1006,1007,1008] 57 [(0,.ptr 1000 0),(3,.own 900),(4,i64 0),(5,xix 1008 A B),(12,.own 1007),(13,i64 1),(14,i64 0)] (pR1 s a [(900,zju acc)]),fun x=>x.1.1.2.length,⟨(([],a),a.length,acc),rfl,by simp,by dsimp only;omega,k2⟩,?_,?_⟩
  . exact (zcx (pK9 [(900,some 900)]))
  rintro ⟨⟨⟨A,B⟩,n,acc⟩,i1,i2,i4,i3⟩;dsimp only at i1 i2 i3 i4;refine zge fun Q2 hQ2=>?_
  have hz:a.length=A.length+B.length:=by rw [i1];simp
  have hko:∀ c∈a,Okc c:=hka;by_cases hB:B=[]
  case pos =>
   subst hB;rw [zuz,zy91] at i3;rw [zy13] at hz;cases A with
   | nil =>
    (conv=>whnf);have ha0:a=[]:=zy19 zz96;refine zag ?_ ?_
    . simp [ha0]
    exact yy48
   | cons t A =>
    exact yy48
  case neg =>
  obtain ⟨r,r1,r2,r3⟩:=yit (most:=s.config.packet) hB;have hBl:=zy30.2 hB;obtain ⟨n,rfl⟩:∃ n',n=n'+1:=⟨n-1,by omega⟩
  have hN:zgo s.config.packet 0 (n+1) B=zmy s.config.packet 0 B++zgo s.config.packet 0 n (B.drop r):=by rw [zgo,zy0 hB,r1,zy38]
  have hP:zmy s.config.packet 0 B=if (Pck.zdf (B.take r) s.config.packet).2=0 then [⟨0,false,(Pck.zdf (B.take r) s.config.packet).1⟩] else []:=by rw [zmy,r1,zy38]
  have hsz:Pck.zga B:=⟨by omega,fun c hc=>hko c zz62⟩
  have hszr:Pck.zga (B.take r):=hsz.take r;rw [hN,zy31] at i3;cases A with
  | nil =>
   have i1':B=a:=i1.symm;subst i1';(conv=>whnf);refine sT ?_
   repeat refine sG ?_
   (refine cL ?_;refine dL (Pck.zmq B s.config.packet hsz hm) ?_)
   refine zaa (c:=(0:Int)<=0/\(0:Int)<=zce s.config.packet B/\zce s.config.packet B<=((B.map Chunk.row).length:Int)) ⟨by omega,by omega,by rw [zy2];omega⟩ (zw ?_);refine zek (zw ?_);refine zos (a:=[]) (b:=B.take r) (c:=B.drop r) zz5 rfl (show (zce s.config.packet B-0).toNat=_ by rw [r1];simp;omega) ?_;(conv=>whnf);refine ⟨_,Pck.zfv (B.take r) s.config.packet hszr,rfl,zw ?_⟩;refine sD ?_;by_cases ho:(Pck.zdf (B.take r) s.config.packet).2=0
   case pos =>
    rw [zy1 ho] at hP;refine zai ?_ ?_
    . simpa using ho
    (conv=>whnf);refine zaa (c:=((acc.map zaz.row).length+1)*40<=140737488355328) zz15 (zw ?_)
    repeat refine sG ?_
    refine zaa (c:=(0:Int)<=zce s.config.packet B/\zce s.config.packet B<=((B.map Chunk.row).length:Int)/\((B.map Chunk.row).length:Int)<=((B.map Chunk.row).length:Int)) ⟨by omega,by rw [zy2];omega,by omega⟩ (zw ?_);obtain ⟨x,B1,hx⟩:∃ x B1,B.take r=x::B1:=by
     exact yy16
    have hxl:B1.length+1=r:=by have:=congrArg List.length hx;simp at this;omega
    refine hQ2 _ _ (zw ?_);exact ⟨⟨((x::B1,B.drop r),n,acc++[⟨0,false,(Pck.zdf (B.take r) s.config.packet).1⟩]),by rw [<- hx,zy23],by simp;omega,by simp;omega,by rw [<- i3,hP];simp⟩,(zbv (pK9 [(900,some 51)]) zz7),by simp;omega⟩
   case neg =>
    rw [zy0 ho] at hP;refine zag ?_ ?_
    . simpa using ho
    conv=>whnf
    repeat refine sG ?_
    refine zaa (c:=(0:Int)<=zce s.config.packet B/\zce s.config.packet B<=((B.map Chunk.row).length:Int)/\((B.map Chunk.row).length:Int)<=((B.map Chunk.row).length:Int)) ⟨by omega,by rw [zy2];omega,by omega⟩ (zw ?_);obtain ⟨x,B1,hx⟩:∃ x B1,B.take r=x::B1:=by
     exact yy16
    have hxl:B1.length+1=r:=by have:=congrArg List.length hx;simp at this;omega
    refine hQ2 _ _ (zw ?_);exact ⟨⟨((x::B1,B.drop r),n,acc),by rw [<- hx,zy23],by simp;omega,by simp;omega,by rw [<- i3,hP];simp⟩,(zbv (pK9 [(900,some 900)]) zz7),by simp;omega⟩
  | cons t A =>
   have hal:(A.length:Int)+1=((t::A).length:Nat):=by simp
   (conv=>whnf);refine sT ?_
   repeat refine sG ?_
   refine zbn (zw ?_);refine zos (a:=t::A) (b:=B) (c:=[]) zz76 rfl rfl ?_;(conv=>whnf);refine ⟨_,Pck.zmq B s.config.packet hsz hm,rfl,zw ?_⟩
   repeat refine sG ?_
   refine zaa (c:=(0:Int)<=zce s.config.packet B/\((A.length+1:Nat):Int)+zce s.config.packet B<=((a.map Chunk.row).length:Int)) ⟨by omega,by rw [zy2,hz,zy5];omega⟩ (zw ?_);refine zek (zw ?_);refine zos (a:=t::A) (b:=B.take r) (c:=B.drop r) zz76 rfl (show (zce s.config.packet B).toNat=_ by rw [r1];simp;omega) ?_;(conv=>whnf);refine ⟨_,Pck.zfv (B.take r) s.config.packet hszr,rfl,zw ?_⟩;refine sD ?_;by_cases ho:(Pck.zdf (B.take r) s.config.packet).2=0
   case pos =>
    rw [zy1 ho] at hP;refine zai ?_ ?_
    . simpa using ho
    (conv=>whnf);refine zaa (c:=((acc.map zaz.row).length+1)*40<=140737488355328) zz15 (zw ?_)
    repeat refine sG ?_
    refine zaa (c:=(0:Int)<=zce s.config.packet B/\zce s.config.packet B<=(B.length:Int)/\((A.length+1:Nat):Int)+(B.length:Int)<=((a.map Chunk.row).length:Int)) ⟨by omega,by omega,by rw [zy2,hz,zy5];omega⟩ (zw ?_);refine hQ2 _ _ (zw ?_);exact ⟨⟨((t::(A++B.take r),B.drop r),n,acc++[⟨0,false,(Pck.zdf (B.take r) s.config.packet).1⟩]),by rw [i1];simp,by simp;omega,by simp;omega,by rw [<- i3,hP];simp⟩,(zbv (pK9 [(900,some 51)]) zz6),by simp;omega⟩
   case neg =>
    rw [zy0 ho] at hP;refine zag ?_ ?_
    . simpa using ho
    conv=>whnf
    repeat refine sG ?_
    refine zaa (c:=(0:Int)<=zce s.config.packet B/\zce s.config.packet B<=(B.length:Int)/\((A.length+1:Nat):Int)+(B.length:Int)<=((a.map Chunk.row).length:Int)) ⟨by omega,by omega,by rw [zy2,hz,zy5];omega⟩ (zw ?_);refine hQ2 _ _ (zw ?_);exact ⟨⟨((t::(A++B.take r),B.drop r),n,acc),by rw [i1];simp,by simp;omega,by simp;omega,by rw [<- i3,hP];simp⟩,(zbv (pK9 [(900,some 900)]) zz6),by simp;omega⟩
 case inr =>
  have k2:acc=T:=by rw [<- k2];simp [zby]
  subst k2;(conv=>whnf);refine hQ _ _ ?_;conv=>whnf
  (exact zbz (pK9 [(0,some 900)]))
theorem ybq (s:zab) (a b:List Chunk) (hm:inI s.config.packet) (ha:a.length<2 ^ 29) (hb:b.length<2 ^ 29) (hka:∀ c∈a,Okc c) (hkb:∀ c∈b,Okc c):zao Tryz.prog 97 [.ptr 1000 0] (lk .free (pH2 s a b)) (.own 0) (lk .free (pE2 s (zby s.config.packet 0 [a,b]))):=by
 generalize hT:zby s.config.packet 0 [a,b]=T;refine zan mixed Tryz.func97 zz4 [1000,1001,1002,1003,1004,1005,1006,1007,1008,1009] zbj ?_;(conv=>whnf);refine ⟨{x:Nat×List zaz // x.1<=2/\x.2.length<=x.1*2 ^ 29/\x.2++zby s.config.packet x.1 ([a,b].drop x.1)=T},
  fun | ⟨(i,acc),_⟩=>hsP [1000,1001,1002,1003,1004,1005,1006,1007,1008,1009] 57 [(0,.ptr 1000 0),(3,.own 900),(12,.own 1007),(13,i64 2),(14,i64 i)] (pR2 s a b [(900,zju acc)]),fun x=>2-x.1.1,⟨(0,[]),by dsimp only;omega,by simp,hT⟩,?_,?_⟩
 . exact (zcx (zhi [(900,none)]))
 rintro ⟨⟨i,acc⟩,k1,k3,k2⟩;dsimp only at k1 k2 k3;refine zge fun Q hQ=>?_
 have hi:i=0\/i=1\/i=2:=by omega
 rcases hi with rfl | rfl | rfl
 case inl =>
  have hdr:zby s.config.packet 0 ([a,b].drop 0)=zgo s.config.packet 0 a.length a++zby s.config.packet (0+1) ([a,b].drop (0+1)):=rfl;rw [hdr] at k2;(conv=>whnf);refine ⟨0,rfl,by decide,zw ?_⟩;refine ⟨{x:(List Chunk×List Chunk)×Nat×List zaz // a=x.1.1++x.1.2/\x.1.2.length<=x.2.1/\x.2.2.length+x.1.2.length<=(0+1)*2 ^ 29/\x.2.2++(zgo s.config.packet 0 x.2.1 x.1.2++zby s.config.packet (0+1) ([a,b].drop (0+1)))=T},
   fun | ⟨((A,B),n,acc),_⟩=>hsP [1000,1001,1002,1003,1004,1005,1006,1007,1008,1009] 57 [(0,.ptr 1000 0),(3,.own 900),(4,i64 0),(5,xix 1008 A B),(12,.own 1007),(13,i64 2),(14,i64 0)] (pR2 s a b [(900,zju acc)]),fun x=>x.1.1.2.length,⟨(([],a),a.length,acc),rfl,by simp,by dsimp only;omega,k2⟩,?_,?_⟩
  . exact (zcx (zhi [(900,some 900)]))
  rintro ⟨⟨⟨A,B⟩,n,acc⟩,i1,i2,i4,i3⟩;dsimp only at i1 i2 i3 i4;refine zge fun Q2 hQ2=>?_
  have hz:a.length=A.length+B.length:=by rw [i1];simp
  have hko:∀ c∈a,Okc c:=hka;by_cases hB:B=[]
  case pos =>
   subst hB;rw [zuz,zy91] at i3;rw [zy13] at hz;cases A with
   | nil =>
    (conv=>whnf);have ha0:a=[]:=zy19 zz96;refine zag ?_ ?_
    . simp [ha0]
    exact yy49
   | cons t A =>
    exact yy49
  case neg =>
  obtain ⟨r,r1,r2,r3⟩:=yit (most:=s.config.packet) hB;have hBl:=zy30.2 hB;obtain ⟨n,rfl⟩:∃ n',n=n'+1:=⟨n-1,by omega⟩
  have hN:zgo s.config.packet 0 (n+1) B=zmy s.config.packet 0 B++zgo s.config.packet 0 n (B.drop r):=by rw [zgo,zy0 hB,r1,zy38]
  have hP:zmy s.config.packet 0 B=if (Pck.zdf (B.take r) s.config.packet).2=0 then [⟨0,false,(Pck.zdf (B.take r) s.config.packet).1⟩] else []:=by rw [zmy,r1,zy38]
  have hsz:Pck.zga B:=⟨by omega,fun c hc=>hko c zz62⟩
  have hszr:Pck.zga (B.take r):=hsz.take r;rw [hN,zy31] at i3;cases A with
  | nil =>
   have i1':B=a:=i1.symm;subst i1';(conv=>whnf);refine sT ?_
   repeat refine sG ?_
   (refine cL ?_;refine dL (Pck.zmq B s.config.packet hsz hm) ?_)
   refine zaa (c:=(0:Int)<=0/\(0:Int)<=zce s.config.packet B/\zce s.config.packet B<=((B.map Chunk.row).length:Int)) ⟨by omega,by omega,by rw [zy2];omega⟩ (zw ?_);refine zek (zw ?_);refine zos (a:=[]) (b:=B.take r) (c:=B.drop r) zz5 rfl (show (zce s.config.packet B-0).toNat=_ by rw [r1];simp;omega) ?_;(conv=>whnf);refine ⟨_,Pck.zfv (B.take r) s.config.packet hszr,rfl,zw ?_⟩;refine sD ?_;by_cases ho:(Pck.zdf (B.take r) s.config.packet).2=0
   case pos =>
    rw [zy1 ho] at hP;refine zai ?_ ?_
    . simpa using ho
    (conv=>whnf);refine zaa (c:=((acc.map zaz.row).length+1)*40<=140737488355328) zz15 (zw ?_)
    repeat refine sG ?_
    refine zaa (c:=(0:Int)<=zce s.config.packet B/\zce s.config.packet B<=((B.map Chunk.row).length:Int)/\((B.map Chunk.row).length:Int)<=((B.map Chunk.row).length:Int)) ⟨by omega,by rw [zy2];omega,by omega⟩ (zw ?_);obtain ⟨x,B1,hx⟩:∃ x B1,B.take r=x::B1:=by
     exact yy16
    have hxl:B1.length+1=r:=by have:=congrArg List.length hx;simp at this;omega
    refine hQ2 _ _ (zw ?_);exact ⟨⟨((x::B1,B.drop r),n,acc++[⟨0,false,(Pck.zdf (B.take r) s.config.packet).1⟩]),by rw [<- hx,zy23],by simp;omega,by simp;omega,by rw [<- i3,hP];simp⟩,(zbv (zhi [(900,some 51)]) zz7),by simp;omega⟩
   case neg =>
    exact yy13
  | cons t A =>
   have hal:(A.length:Int)+1=((t::A).length:Nat):=by simp
   (conv=>whnf);refine sT ?_
   repeat refine sG ?_
   refine zbn (zw ?_);refine zos (a:=t::A) (b:=B) (c:=[]) zz76 rfl rfl ?_;(conv=>whnf);refine ⟨_,Pck.zmq B s.config.packet hsz hm,rfl,zw ?_⟩
   repeat refine sG ?_
   refine zaa (c:=(0:Int)<=zce s.config.packet B/\((A.length+1:Nat):Int)+zce s.config.packet B<=((a.map Chunk.row).length:Int)) ⟨by omega,by rw [zy2,hz,zy5];omega⟩ (zw ?_);refine zek (zw ?_);refine zos (a:=t::A) (b:=B.take r) (c:=B.drop r) zz76 rfl (show (zce s.config.packet B).toNat=_ by rw [r1];simp;omega) ?_;(conv=>whnf);refine ⟨_,Pck.zfv (B.take r) s.config.packet hszr,rfl,zw ?_⟩;refine sD ?_;by_cases ho:(Pck.zdf (B.take r) s.config.packet).2=0
   case pos =>
    rw [zy1 ho] at hP;refine zai ?_ ?_
    . simpa using ho
    (conv=>whnf);refine zaa (c:=((acc.map zaz.row).length+1)*40<=140737488355328) zz15 (zw ?_)
    repeat refine sG ?_
    refine zaa (c:=(0:Int)<=zce s.config.packet B/\zce s.config.packet B<=(B.length:Int)/\((A.length+1:Nat):Int)+(B.length:Int)<=((a.map Chunk.row).length:Int)) ⟨by omega,by omega,by rw [zy2,hz,zy5];omega⟩ (zw ?_);refine hQ2 _ _ (zw ?_);exact ⟨⟨((t::(A++B.take r),B.drop r),n,acc++[⟨0,false,(Pck.zdf (B.take r) s.config.packet).1⟩]),by rw [i1];simp,by simp;omega,by simp;omega,by rw [<- i3,hP];simp⟩,(zbv (zhi [(900,some 51)]) zz6),by simp;omega⟩
   case neg =>
    rw [zy0 ho] at hP;refine zag ?_ ?_
    . simpa using ho
    conv=>whnf
    repeat refine sG ?_
    refine zaa (c:=(0:Int)<=zce s.config.packet B/\zce s.config.packet B<=(B.length:Int)/\((A.length+1:Nat):Int)+(B.length:Int)<=((a.map Chunk.row).length:Int)) ⟨by omega,by omega,by rw [zy2,hz,zy5];omega⟩ (zw ?_);exact yy66
 case inr.inl =>
  have hdr:zby s.config.packet 1 ([a,b].drop 1)=zgo s.config.packet 1 b.length b++zby s.config.packet (1+1) ([a,b].drop (1+1)):=rfl;rw [hdr] at k2;(conv=>whnf);refine ⟨1,rfl,by decide,zw ?_⟩;refine ⟨{x:(List Chunk×List Chunk)×Nat×List zaz // b=x.1.1++x.1.2/\x.1.2.length<=x.2.1/\x.2.2.length+x.1.2.length<=(1+1)*2 ^ 29/\x.2.2++(zgo s.config.packet 1 x.2.1 x.1.2++zby s.config.packet (1+1) ([a,b].drop (1+1)))=T},
   fun | ⟨((A,B),n,acc),_⟩=>hsP [1000,1001,1002,1003,1004,1005,1006,1007,1008,1009] 57 [(0,.ptr 1000 0),(3,.own 900),(4,i64 1),(5,xix 1009 A B),(12,.own 1007),(13,i64 2),(14,i64 1)] (pR2 s a b [(900,zju acc)]),fun x=>x.1.1.2.length,⟨(([],b),b.length,acc),rfl,by simp,by dsimp only;omega,k2⟩,?_,?_⟩
  . exact (zcx (zhi [(900,some 900)]))
  rintro ⟨⟨⟨A,B⟩,n,acc⟩,i1,i2,i4,i3⟩;dsimp only at i1 i2 i3 i4;refine zge fun Q2 hQ2=>?_
  have hz:b.length=A.length+B.length:=by rw [i1];simp
  have hko:∀ c∈b,Okc c:=hkb;by_cases hB:B=[]
  case pos =>
   subst hB;rw [zuz,zy91] at i3;rw [zy13] at hz;cases A with
   | nil =>
    (conv=>whnf);have ha0:b=[]:=zy19 zz96;refine zag ?_ ?_
    . simp [ha0]
    exact yy50
   | cons t A =>
    exact yy50
  case neg =>
  obtain ⟨r,r1,r2,r3⟩:=yit (most:=s.config.packet) hB;have hBl:=zy30.2 hB;obtain ⟨n,rfl⟩:∃ n',n=n'+1:=⟨n-1,by omega⟩
  have hN:zgo s.config.packet 1 (n+1) B=zmy s.config.packet 1 B++zgo s.config.packet 1 n (B.drop r):=by rw [zgo,zy0 hB,r1,zy38]
  have hP:zmy s.config.packet 1 B=if (Pck.zdf (B.take r) s.config.packet).2=0 then [⟨1,false,(Pck.zdf (B.take r) s.config.packet).1⟩] else []:=by rw [zmy,r1,zy38]
  have hsz:Pck.zga B:=⟨by omega,fun c hc=>hko c zz62⟩
  have hszr:Pck.zga (B.take r):=hsz.take r;rw [hN,zy31] at i3;cases A with
  | nil =>
   have i1':B=b:=i1.symm;subst i1';(conv=>whnf);refine sT ?_
   repeat refine sG ?_
   (refine cL ?_;refine dL (Pck.zmq B s.config.packet hsz hm) ?_)
   refine zaa (c:=(0:Int)<=0/\(0:Int)<=zce s.config.packet B/\zce s.config.packet B<=((B.map Chunk.row).length:Int)) ⟨by omega,by omega,by rw [zy2];omega⟩ (zw ?_);refine zek (zw ?_);refine zos (a:=[]) (b:=B.take r) (c:=B.drop r) zz5 rfl (show (zce s.config.packet B-0).toNat=_ by rw [r1];simp;omega) ?_;(conv=>whnf);refine ⟨_,Pck.zfv (B.take r) s.config.packet hszr,rfl,zw ?_⟩;refine sD ?_;by_cases ho:(Pck.zdf (B.take r) s.config.packet).2=0
   case pos =>
    rw [zy1 ho] at hP;refine zai ?_ ?_
    . simpa using ho
    (conv=>whnf);refine zaa (c:=((acc.map zaz.row).length+1)*40<=140737488355328) zz15 (zw ?_)
    repeat refine sG ?_
    refine zaa (c:=(0:Int)<=zce s.config.packet B/\zce s.config.packet B<=((B.map Chunk.row).length:Int)/\((B.map Chunk.row).length:Int)<=((B.map Chunk.row).length:Int)) ⟨by omega,by rw [zy2];omega,by omega⟩ (zw ?_);obtain ⟨x,B1,hx⟩:∃ x B1,B.take r=x::B1:=by
     exact yy16
    have hxl:B1.length+1=r:=by have:=congrArg List.length hx;simp at this;omega
    refine hQ2 _ _ (zw ?_);exact ⟨⟨((x::B1,B.drop r),n,acc++[⟨1,false,(Pck.zdf (B.take r) s.config.packet).1⟩]),by rw [<- hx,zy23],by simp;omega,by simp;omega,by rw [<- i3,hP];simp⟩,(zbv (zhi [(900,some 51)]) zz7),by simp;omega⟩
   case neg =>
    exact yy13
  | cons t A =>
   have hal:(A.length:Int)+1=((t::A).length:Nat):=by simp
   (conv=>whnf);refine sT ?_
   repeat refine sG ?_
   refine zbn (zw ?_);refine zos (a:=t::A) (b:=B) (c:=[]) zz76 rfl rfl ?_;(conv=>whnf);refine ⟨_,Pck.zmq B s.config.packet hsz hm,rfl,zw ?_⟩
   repeat refine sG ?_
   refine zaa (c:=(0:Int)<=zce s.config.packet B/\((A.length+1:Nat):Int)+zce s.config.packet B<=((b.map Chunk.row).length:Int)) ⟨by omega,by rw [zy2,hz,zy5];omega⟩ (zw ?_);refine zek (zw ?_);refine zos (a:=t::A) (b:=B.take r) (c:=B.drop r) zz76 rfl (show (zce s.config.packet B).toNat=_ by rw [r1];simp;omega) ?_;(conv=>whnf);refine ⟨_,Pck.zfv (B.take r) s.config.packet hszr,rfl,zw ?_⟩;refine sD ?_;by_cases ho:(Pck.zdf (B.take r) s.config.packet).2=0
   case pos =>
    rw [zy1 ho] at hP;refine zai ?_ ?_
    . simpa using ho
    (conv=>whnf);refine zaa (c:=((acc.map zaz.row).length+1)*40<=140737488355328) zz15 (zw ?_)
    repeat refine sG ?_
    refine zaa (c:=(0:Int)<=zce s.config.packet B/\zce s.config.packet B<=(B.length:Int)/\((A.length+1:Nat):Int)+(B.length:Int)<=((b.map Chunk.row).length:Int)) ⟨by omega,by omega,by rw [zy2,hz,zy5];omega⟩ (zw ?_);refine hQ2 _ _ (zw ?_);exact ⟨⟨((t::(A++B.take r),B.drop r),n,acc++[⟨1,false,(Pck.zdf (B.take r) s.config.packet).1⟩]),by rw [i1];simp,by simp;omega,by simp;omega,by rw [<- i3,hP];simp⟩,(zbv (zhi [(900,some 51)]) zz6),by simp;omega⟩
   case neg =>
    rw [zy0 ho] at hP;refine zag ?_ ?_
    . simpa using ho
    conv=>whnf
    repeat refine sG ?_
    refine zaa (c:=(0:Int)<=zce s.config.packet B/\zce s.config.packet B<=(B.length:Int)/\((A.length+1:Nat):Int)+(B.length:Int)<=((b.map Chunk.row).length:Int)) ⟨by omega,by omega,by rw [zy2,hz,zy5];omega⟩ (zw ?_);exact yy66
 case inr.inr =>
  have k2:acc=T:=by rw [<- k2];simp [zby]
  subst k2;(conv=>whnf);refine hQ _ _ ?_;conv=>whnf
  (exact zbz (zhi [(0,some 900)]))
end Snd
namespace Snd
open Ser
structure PF (j:Nat) (s:zab):Prop where
 g:yjl s
 some:0<s.paths.length
 part:1<=s.config.part
 part2:s.config.part<2 ^ 30
 msg:∀ m∈s.queue,zth s m
 chunk:∀ x∈s.out,Okc x.chunk
 bytes:Sco.total s.out+j*2 ^ 30<2 ^ 38
 few:s.out.length+s.queue.length<2 ^ 27
theorem PF.nfit {j:Nat} {s:zab} (h:PF j s):xga s:=⟨h.g,h.some,h.part,h.part2,h.msg⟩
theorem zth.same {s t:zab} {m:zaf} (h:zth s m) (h1:t.config=s.config) (h2:t.mids.length=s.mids.length) (h3:t.sched.had.length=s.sched.had.length):zth t m:=by
 obtain ⟨⟨a1,a2,a3,a4,a5⟩,b1,b2,b3,b4⟩:=h;have e:zig t m=zig s m:=by unfold zig;rw [h1]
 exact ⟨⟨a1,a2,by rw [h1];exact a3,by rw [h1];exact a4,fun hm=>by rw [e,h2];exact a5 hm⟩,by rw [h3];exact b1,b2,b3,b4⟩
theorem ykj (id:Int):∀ (q:List zaf) (s:zab),(∀ x∈s.out,Okc x.chunk)->∀ x∈(q.foldl (zfb id) s).out,Okc x.chunk
 | [],s,h,x,hx=>h x hx
 | m::q,s,h,x,hx=>by
  refine ykj id q (zfb id s m) (fun y hy=>?_) x hx;unfold zfb at hy;split at hy
  . rcases zy14.1 hy with hy | hy
    . exact h y hy
    . rw [zy21] at hy;subst hy;exact ⟨by simp [zsh],by simp [zsh]⟩
  . exact h y hy
theorem yru {j:Nat} {s:zab} (h:PF j s) {id:Nat} (hid:id<s.fates.length):PF j (zfn s id):=by
 obtain ⟨r,h1,h2,h3⟩:=zjo s id;have hs:=r.sum;refine ⟨zzx h.g hid,by rw [r.paths];exact h.some,by rw [r.config];exact h.part,by rw [r.config];exact h.part2,fun m hm=>(h.msg m (h2 m hm)).same r.config (by rw [r.mids]) (by rw [r.had]),fun x hx=>?_,by rw [h1];exact h.bytes,by have:=h.few;omega⟩;have hx':x∈((s.queue.foldl (zfb id) {s with fates:=s.fates.set id 3}).out.map (Sco.zif id)):=hx;obtain ⟨y,hy,rfl⟩:=zy26.1 hx';have:=ykj id s.queue {s with fates:=s.fates.set id 3} h.chunk y hy;have e:(Sco.zif id y).chunk=y.chunk:=by unfold Sco.zif;split<;>rfl
 rw [e];exact this
theorem xcw {j:Nat} {s:zab} (h:PF j s) {m:zaf} (hm:0<=m.id/\m.id<s.fates.length):PF j (zlb s m):=by
 unfold zlb;split
 . obtain ⟨k,hk⟩:∃ k:Nat,m.id=k:=⟨m.id.toNat,by omega⟩
   rw [hk];exact yru h zz0
 . exact h
theorem xcz {j:Nat} {s:zab} (h:PF j s) {m:zbs} (hm:0<=m.id/\m.id<s.fates.length):PF j (zie s m):=by
 unfold zie;split
 . obtain ⟨k,hk⟩:∃ k:Nat,m.id=k:=⟨m.id.toNat,by omega⟩
   rw [hk];exact yru h zz0
 . exact h
theorem ykn {j:Nat}:∀ (q:List zaf) (s:zab),PF j s->(∀ m∈q,0<=m.id/\m.id<s.fates.length)->PF j (q.foldl zlb s)/\Rest s (q.foldl zlb s)
 | [],s,h,_=>⟨h,Rest.refl s⟩
 | m::q,s,h,hq=>by
  obtain ⟨-,r⟩:=zzp h.g (hq m zz5);obtain ⟨h1,r1⟩:=ykn q (zlb s m) (xcw h (hq m zz5)) fun x hx=>by rw [r.fates];exact hq x zz39
  exact ⟨h1,r.trans r1⟩
theorem ykp {j:Nat}:∀ (q:List zbs) (s:zab),PF j s->(∀ m∈q,0<=m.id/\m.id<s.fates.length)->PF j (q.foldl zie s)/\Rest s (q.foldl zie s)
 | [],s,h,_=>⟨h,Rest.refl s⟩
 | m::q,s,h,hq=>by
  obtain ⟨-,r⟩:=zzr h.g (hq m zz5);obtain ⟨h1,r1⟩:=ykp q (zie s m) (xcz h (hq m zz5)) fun x hx=>by rw [r.fates];exact hq x zz39
  exact ⟨h1,r.trans r1⟩
theorem yri {j:Nat} {s:zab} (h:PF j s):PF j (expire s)/\Rest s (expire s):=by
 obtain ⟨h1,r1⟩:=ykn s.queue s h h.g.qid;obtain ⟨h2,r2⟩:=ykp (s.queue.foldl zlb s).out _ h1 h1.g.xid;exact ⟨h2,r1.trans r2⟩
theorem zvd:∀ (l:List zbs) (cum:Int) (sk:List zfz),sk.length<=8->(Sco.zfo cum sk l).2.length<=8
 | [],cum,sk,h=>h
 | x::l,cum,sk,h=>by
  simp only [Sco.zfo];split
  . exact h
  split
  . split
    . exact h
    . exact zvd l _ _ zz0
  . exact zvd l _ _ h
theorem xdh (s:zab):Okc (zul s):=⟨by simp [zul],by have:=zvd s.out s.cum [] zz5;show (Sco.zdx s.out s.cum).2.length<_;unfold Sco.zdx;omega⟩
theorem PF.paths {j:Nat} {s:zab} (h:PF j s) (ps:List Path) (f:Bool) (hp:ps.length=s.paths.length):PF j {s with paths:=ps,forward:=f}:=by
 obtain ⟨⟨⟨f1,f2,f3,f4,f5,f6,f7⟩,g2,g3,g4⟩,a1,a2,a3,a4,a5,a6,a7⟩:=h;exact ⟨⟨⟨f1,f2,f3,by show ps.length<_;omega,f5,f6,f7⟩,g2,g3,g4⟩,by show 0<ps.length;omega,a2,a3,fun m hm=>(a4 m hm).same rfl rfl rfl,a5,a6,a7⟩
theorem xgp {j:Nat} {s:zab} (h:PF j s) {k:Nat} {w:Path}:PF j (yqh s k w):=h.paths _ _ zz5
theorem xgn {j:Nat} {s:zab} (h:PF j s) {i c:Nat} {x:zbs} {w:Path} (hx:s.out[i]?=some x):PF j (yda s i c x w):=by
 obtain ⟨⟨⟨f1,f2,⟨b1,b2⟩,f4,f5,f6,f7⟩,g2,g3,g4⟩,a1,a2,a3,a4,a5,a6,a7⟩:=h;have hi:=(zy8.1 hx).1;have hl:(yda s i c x w).out.length=s.out.length:=by show (s.out.set i _).length=_;simp
 have hp:(yda s i c x w).paths.length=s.paths.length:=by show (s.paths.set c _).length=_;simp
 have ht:Sco.total (yda s i c x w).out=Sco.total s.out:=by
  show Sco.total (s.out.set i (zwh x c))=_;have he:s.out[i]=x:=(zy8.1 hx).2;simp only [Sco.total,zy107];rw [show (zwh x c).chunk.data.length=(s.out.map fun s=>s.chunk.data.length)[i]'(by simpa using hi) by simp [zwh,he],List.set_getElem_self]
 have hmem:∀ y∈(yda s i c x w).out,∃ z∈s.out,y.id=z.id/\y.chunk=z.chunk:=fun y hy=>by
  rcases zy55 (show y∈s.out.set i (zwh x c) from hy) with hy | hy
  . exact ⟨y,hy,rfl,rfl⟩
  . exact ⟨x,zy9 hx,by rw [hy];rfl,by rw [hy];rfl⟩
 refine ⟨⟨⟨f1,f2,⟨by rw [hl];exact b1,by rw [ht];exact b2⟩,by rw [hp];exact f4,f5,f6,f7⟩,by rw [hl];exact g2,g3,fun y hy=>?_⟩,by rw [hp];exact a1,a2,a3,fun m hm=>(a4 m hm).same rfl rfl rfl,fun y hy=>?_,by rw [ht];exact a6,by rw [hl];exact a7⟩
 . obtain ⟨z,hz,e,-⟩:=hmem y hy;rw [e];exact g4 z hz
 . obtain ⟨z,hz,-,e⟩:=hmem y hy;rw [e];exact a5 z hz
def nxS (s:zab) (k c:Nat) (m:zaf) (w:Path):zab:={yda (s2 s k m) s.out.length c (x0 s m) w with queue:=if ovr s m then s.queue.eraseIdx k else s.queue.set k (m2 s m)}
theorem xef {j:Nat} {s:zab} (h:PF (j+1) s) {k c:Nat} {m:zaf} {w:Path} (hm:s.queue[k]?=some m) (ho:s.out.length<60):PF j (nxS s k c m w):=by
 have hmf:=h.msg m (zy9 hm);obtain ⟨⟨⟨f1,f2,⟨b1,b2⟩,f4,f5,f6,f7⟩,g2,g3,g4⟩,a1,a2,a3,a4,a5,a6,a7⟩:=h;obtain ⟨n1,n2,n3⟩:=zut (s:=s) (m:=m) a2 a3 hmf.sent hmf.left hmf.data;have hk:=(zy8.1 hm).1;have hmid:(zdr s m).length=s.mids.length:=by
  unfold zdr setAt;split
  . split
    . rfl
    . simp
  . rfl
 have hhad:(Sch.had s.sched {m with mid:=zcd s m} (many s m) (ovr s m)).had.length=s.sched.had.length:=by
  unfold Sch.had;dsimp only;split<;>simp
 have hout:(nxS s k c m w).out=(s.out++[x0 s m]).set s.out.length (zwh (x0 s m) c):=rfl;have hout2:(nxS s k c m w).out=s.out++[zwh (x0 s m) c]:=by rw [hout,zy160 _ _ (zy20 _),zy98];rfl
 have hq:∀ y∈(nxS s k c m w).queue,y∈s.queue\/(y=m2 s m/\ovr s m=false):=fun y hy=>by
  have hy:y∈(if ovr s m then s.queue.eraseIdx k else s.queue.set k (m2 s m)):=hy;cases ho:ovr s m with
  | true=>rw [ho,zy1 rfl] at hy;exact .inl (zy73 hy)
  | false =>
   rw [ho,zy0 (by decide)] at hy;rcases zy55 hy with hy | hy
   . exact .inl hy
   . exact .inr ⟨hy,rfl⟩
 have hql:(nxS s k c m w).queue.length<=s.queue.length:=by
  show (if ovr s m then s.queue.eraseIdx k else s.queue.set k (m2 s m)).length<=_;split
  . rw [zy106];split<;>omega
  . simp
 have hp:(nxS s k c m w).paths.length=s.paths.length:=by show (s.paths.set c _).length=_;simp
 have hd:(x0 s m).chunk.data.length<2 ^ 30:=by show ((m.message.data.drop _).take _).length<_;simp;omega
 have htot:Sco.total (nxS s k c m w).out=Sco.total s.out+(x0 s m).chunk.data.length:=by rw [hout2,Sco.zkd];simp [Sco.total,zwh]
 have hlen:(nxS s k c m w).out.length=s.out.length+1:=by rw [hout2];simp
 have hm2:ovr s m=false->zth s (m2 s m):=fun ho=>by
  have:m.sent+many s m≠m.message.data.length:=by
   intro e;have:=xbi s m;rw [ho,zy40] at this;exact this e
  obtain ⟨⟨c1,c2,c3,c4,c5⟩,d1,d2,d3,d4⟩:=hmf;refine ⟨⟨c1,c2,c3,c4,fun hneg=>?_⟩,d1,by show 0<=m.sent+many s m;omega,by show m.sent+many s m<m.message.data.length;omega,d4⟩;have hmn:m.mid<0:=by
   rcases Int.lt_or_le m.mid 0 with h0 | h0
   . exact h0
   . have:zcd s m=m.mid:=by rw [zcd,zy0 (by omega)]
     have hneg:zcd s m<0:=hneg;omega
  exact c5 hmn
 refine ⟨⟨⟨by omega,by rw [show (nxS s k c m w).sched.had.length=s.sched.had.length from hhad];exact f2,⟨by omega,by omega⟩,by omega,by rw [show (nxS s k c m w).mids.length=s.mids.length from hmid];exact f5,f6,fun y hy=>?_⟩,by omega,fun y hy=>?_,fun y hy=>?_⟩,by omega,a2,a3,fun y hy=>?_,fun y hy=>?_,by omega,by omega⟩
 . rcases hq y hy with hy | ⟨rfl,-⟩
   . exact f7 y hy
   . exact f7 m (zy9 hm)
 . show 0<=y.id/\y.id<s.fates.length
   rcases hq y hy with hy | ⟨rfl,-⟩
   . exact g3 y hy
   . exact g3 m (zy9 hm)
 . show 0<=y.id/\y.id<s.fates.length
   rw [hout2] at hy;rcases zy14.1 hy with hy | hy
   . exact g4 y hy
   . rw [zy21] at hy;subst hy;exact g3 m (zy9 hm)
 . have h0:zth s y:=by
    rcases hq y hy with hy | ⟨rfl,ho⟩
    . exact a4 y hy
    . exact hm2 ho
   exact h0.same rfl hmid hhad
 . rw [hout2] at hy
   rcases zy14.1 hy with hy | hy
   . exact a5 y hy
   . rw [zy21] at hy;subst hy;exact ⟨by simp [zwh,x0],by simp [zwh,x0]⟩
theorem yyn {s:zab} {o:List (List Chunk)} {j:Nat} (h:PF (j+1) s) (hc:choose s<o.length):(nx s o=(⟨s,o⟩,false)/\next ⟨s,o⟩=none)\/∃ (k:Nat) (m:zaf) (w:Path) (l:List Chunk),s.queue[k]?=some m/\s.out.length<60/\o[choose s]?=some l /\
 nx s o=(⟨nxS s k (choose s) m w,o.set (choose s) (l++[(x0 s m).chunk])⟩,true)/\next ⟨s,o⟩=some ⟨nxS s k (choose s) m w,o.set (choose s) (l++[(x0 s m).chunk])⟩:=by
 obtain ⟨-,hc2⟩:=zed h.some;obtain ⟨w,hw⟩:∃ w,s.paths[choose s]?=some w:=⟨_,zy3 hc2⟩
 obtain ⟨l,hl⟩:∃ l,o[choose s]?=some l:=⟨_,zy3 hc⟩
 cases hn:next ⟨s,o⟩ with
 | none=>exact .inl ⟨by rw [nx,hn],rfl⟩
 | some q =>
  right
  have hn':=hn;unfold next at hn';split at hn'
  . cases hn'
  rename_i c0;have c0:=not_or.1 c0;have c1:=not_or.1 c0.2;cases hq:s.queue[(zdl s).toNat]? with
  | none=>simp only [hq] at hn';cases hn'
  | some m =>
   simp only [hq] at hn';split at hn'
   . cases hn'
   . have hn':=Option.some.inj hn'
     rw [zff rfl hw hl] at hn';refine ⟨(zdl s).toNat,m,w,l,hq,by have h2:=c1.2;dsimp only at h2;omega,hl,?_,?_⟩
     . rw [nx,hn];simp only;rw [<- hn'];rfl
     . rw [<- hn'];rfl
end Snd
namespace Snd
open Ser
structure PO (g:Config) (j n k:Nat) (p:zgl):Prop where
 pf:PF j p.s
 paths:p.s.paths.length=n
 outs:p.out.length=n
 config:p.s.config=g
 most:∀ l∈p.out,l.length<=k/\∀ c∈l,Okc c
theorem PO.mono {g:Config} {j n k k':Nat} {p:zgl} (h:PO g j n k p) (hk:k<=k'):PO g j n k' p:=⟨h.pf,h.paths,h.outs,h.config,fun l hl=>⟨zy109 (h.most l hl).1 hk,(h.most l hl).2⟩⟩
theorem zve {o:List (List Chunk)} {k c:Nat} {l:List Chunk} {x:Chunk} (h:∀ l∈o,l.length<=k/\∀ c∈l,Okc c) (hl:o[c]?=some l) (hx:Okc x):∀ m∈o.set c (l++[x]),m.length<=k+1/\∀ c∈m,Okc c:=fun m hm=>by
 rcases zy55 hm with hm | rfl
 . obtain ⟨h1,h2⟩:=h m hm;exact ⟨by omega,h2⟩
 . obtain ⟨h1,h2⟩:=h l (zy9 hl)
   refine ⟨by simp;omega,fun c hc=>?_⟩;rcases zy14.1 hc with hc | hc
   . exact h2 c hc
   . rw [zy21] at hc;subst hc;exact hx
theorem yqq {g:Config} {j n k c:Nat} {p:zgl} (h:PO g j n k p) (hc:c<n) (i:Nat):PO g j n (k+1) (zdp c p i):=by
 obtain ⟨s,o⟩:=p;obtain ⟨w,hw⟩:∃ w,s.paths[c]?=some w:=⟨_,zy3 (by have:=h.paths;dsimp only at this;omega)⟩
 obtain ⟨l,hl⟩:∃ l,o[c]?=some l:=⟨_,zy3 (by have:=h.outs;dsimp only at this;omega)⟩
 cases hx:s.out[i]? with
 | none=>simp only [zdp,hx];exact h.mono zz0
 | some x =>
  by_cases d:x.state=3/\w.zak<w.window
  . rw [zof hx hw hl d]
    exact ⟨xgn h.pf hx,by show (s.paths.set c _).length=_;rw [zy28];exact h.paths,by show (o.set c _).length=_;rw [zy28];exact h.outs,h.config,zve h.most hl (h.pf.chunk x (zy9 hx))⟩
  . rw [zsp hx hw d];exact h.mono zz0
theorem ycg {g:Config} {j n c:Nat} (hc:c<n):∀ (L:List Nat) {k:Nat} {p:zgl},PO g j n k p->PO g j n (k+L.length) (L.foldl (zdp c) p)
 | [],_,_,h=>h
 | i::L,k,p,h=>(ycg hc L (yqq h hc i)).mono zz3
theorem zyy {g:Config} {j n k:Nat} {p:zgl} (h:PO g j n k p):PO g j n (k+p.s.out.length) (again p):=by
 obtain ⟨-,hc2⟩:=zed h.pf.some;have:=ycg (show choose p.s<n by rw [<- h.paths];exact hc2) (List.range p.s.out.length) h;rw [List.length_range] at this;exact this
theorem zmk {g:Config} {j n k:Nat} {p:zgl} (h:PO g j n k p):PO g j n (k+1) (forward p):=by
 obtain ⟨s,o⟩:=p;obtain ⟨-,hc2⟩:=zed h.pf.some;dsimp only at hc2;obtain ⟨l,hl⟩:∃ l,o[choose s]?=some l:=⟨_,zy3 (by have:=h.outs;have:=h.paths;dsimp only at *;omega)⟩
 obtain ⟨w,hw⟩:∃ w,s.paths[choose s]?=some w:=⟨_,zy3 hc2⟩
 unfold forward;split
 . exact h.mono zz0
 . simp only [setAt,hl,hw]
   exact ⟨xgp h.pf (k:=choose s) (w:=w),by show (s.paths.set _ _).length=_;rw [zy28];exact h.paths,by show (o.set _ _).length=_;rw [zy28];exact h.outs,h.config,zve h.most hl (xdh s)⟩
theorem zok {j:Nat} {s:zab} (h:PF j s):PO s.config j s.paths.length 0 ⟨expire s,List.replicate s.paths.length []⟩:=by
 obtain ⟨h1,r⟩:=yri h;exact ⟨h1,by rw [show (zgl.mk (expire s) _).s=expire s from rfl,r.paths],by simp,r.config,fun l hl=>by rw [zy68 hl];simp⟩
theorem yim {g:Config} {j n k:Nat} {p:zgl} (h:PO g (j+1) n k p):(nx p.s p.out=(p,false)/\next p=none)\/∃ q,nx p.s p.out=(q,true)/\next p=some q/\p.s.out.length<60/\q.s.out.length=p.s.out.length+1/\PO g j n (k+1) q:=by
 obtain ⟨s,o⟩:=p;obtain ⟨-,hc2⟩:=zed h.pf.some;have hp:=h.paths;have ho:=h.outs;dsimp only at hp ho hc2;rcases yyn h.pf (show choose s<o.length by omega) with h1 | ⟨i,m,w,l,h1,h2,h3,h4,h5⟩
 . exact .inl h1
 . refine .inr ⟨_,h4,h5,h2,by simp [nxS,yda,s2],xef h.pf h1 h2,by show (s.paths.set _ _).length=_;rw [zy28];exact hp,by show (o.set _ _).length=_;rw [zy28];exact ho,h.config,zve h.most h3 ⟨by simp [x0],by simp [x0]⟩⟩
theorem zxv {p:zgl} (h:next p=none) (j:Nat):zgn j p=p:=by cases j<;>simp [zgn,h]
end Snd
namespace Snd
open Ser
theorem yts {α:Type} {l:List α} (h:l.length=1):∃ a,l=[a]:=by
 match l,h with
 | [a],_=>exact ⟨a,rfl⟩
theorem ywc {α:Type} {l:List α} (h:l.length=2):∃ a b,l=[a,b]:=by
 match l,h with
 | [a,b],_=>exact ⟨a,b,rfl⟩
abbrev xjc (t:zab) (a:List Chunk) (L:List (Nat×zad)):List (Nat×zad):=(2,.live (.cells 32 yqg))::(16,.live (.cells 139 (ywj t (.own 900) (.own 901) (.own 902) (.own 903) (.own 904) (.own 905) (.own 14))))::zyl t 900 901 902 903 904 905 ((14,.live (.cells 145 [.own 906]))::(906,xfw a)::L)
abbrev xjd (t:zab) (a b:List Chunk) (L:List (Nat×zad)):List (Nat×zad):=(2,.live (.cells 32 yqg))::(16,.live (.cells 139 (ywj t (.own 900) (.own 901) (.own 902) (.own 903) (.own 904) (.own 905) (.own 14))))::zyl t 900 901 902 903 904 905 ((14,.live (.cells 145 [.own 906,.own 907]))::(906,xfw a)::(907,xfw b)::L)
theorem zgg {α β:Type} (f:α->β) (A:List α) (p:α) (B:List β):(A++[p]).map f++B=A.map f++f p::B:=by simp
theorem yjc (s:zab) (h:PF 62 s) (hm:inI s.config.packet) (h1p:s.paths.length=1) :
 zao Tryz.prog 39 [s.hv] zae (.tup [xfb (zfj s).1 0 1 2 3 4 5,.own 6]) (lk .free (zyl (zfj s).1 0 1 2 3 4 5 [(6,zju (zfj s).2)])):=by
 have h0:=h.g.fit;have e1:PO s.config 62 1 0 ⟨expire s,[[]]⟩:=by have:=zok h;rw [h1p] at this;exact this
 have e2:=zmk e1;have e3:=zyy e2;have hF:zgn 61 (again (forward ⟨expire s,[[]]⟩))=zhz s:=by rw [zhz,h1p];rfl
 have hfew:=e2.pf.few;rw [show zfj s=(ygs (zhz s).s,zby s.config.packet 0 (zhz s).out) from rfl];generalize zhz s=F at hF ⊢;dsimp only;refine zan mixed Tryz.func39 zz4 [] (fun _=>.inl rfl) ?_;(conv=>whnf)
 (refine zas [(0,20),(1,21),(2,22),(3,23),(4,24),(5,25)]  ?_;(conv=>whnf);refine dO (zdc s h0) ?_)
 refine zaa ⟨by omega,rfl,by rw [zy2,h1p];decide⟩ (zw ?_);refine ⟨1,by rw [zy2,h1p],by decide,zw ?_⟩;refine sD ?_
 (refine zac [] [(1000,16),(1001,20),(1002,21),(1003,22),(1004,23),(1005,24),(1006,25),(1007,14)] [(0,930),(1,931),(2,932),(3,933),(4,934),(5,935)] ?_;(conv=>whnf);refine dG (yfy s h.g) ?_)
 (refine zac [] [(1000,16),(1001,930),(1002,931),(1003,932),(1004,933),(1005,934),(1006,935),(1007,14)] [(0,940)] ?_;(conv=>whnf);refine dG (ybm (expire s) zz84 e1.paths) ?_)
 generalize forward ⟨expire s,[[]]⟩=P1 at e2 e3 hF hfew ⊢;obtain ⟨t1,o1⟩:=P1;obtain ⟨a1,rfl⟩:=yts e2.outs
 (refine zac [] [(1000,16),(1001,930),(1002,931),(1003,932),(1004,933),(1005,934),(1006,935),(1007,14),(1008,940)] [(0,950)] ?_;(conv=>whnf);refine dG (yiy t1 a1 (by dsimp only at hfew;omega) e2.paths (by have:=(e2.most a1 (by simp)).1;omega)) ?_)
 generalize again ⟨t1,[a1]⟩=P2 at e3 hF ⊢;obtain ⟨t2,o2⟩:=P2;obtain ⟨a2,rfl⟩:=yts e3.outs;dsimp only at hfew;refine ⟨{x:Nat×zab×List Chunk // zgn x.1 ⟨x.2.1,[x.2.2]⟩=F/\PO s.config (x.1+1) 1 (2 ^ 27+99-x.1) ⟨x.2.1,[x.2.2]⟩/\61<=x.1+x.2.1.out.length/\x.1<=61},
  fun | ⟨(j,t,a),_⟩=>hs 106 [(2,.ptr 2 0),(3,zgm),(4,.ptr 16 0)] (xjc t a []),fun x=>x.1.1,⟨(61,t2,a2),hF,e3.mono zz16,by dsimp only;omega,by dsimp only;omega⟩,?_,?_⟩
 . exact (zdi [(2,some 2),(16,some 16),(14,some 14),(900,some 930),(901,some 931),(902,some 932),(903,some 933),(904,some 934),(905,some 935),(906,some 950)])
 rintro ⟨⟨j,t,a⟩,k1,k2,k3,k4⟩;dsimp only at k1 k2 k3 k4;have km:=k2.most a zz5;(conv=>whnf);have hn:=zrb t a k2.pf.nfit k2.paths zz0;rcases yim k2 with ⟨n1,n2⟩ | ⟨q,n1,n2,n3,n4,n5⟩
 case inr =>
  obtain ⟨u,o⟩:=q;have n6:=n5.outs;obtain ⟨b,rfl⟩:=yts n6;dsimp only at n1 n3 n4;rw [n1] at hn
  (refine zac [] [(1000,16),(1001,900),(1002,901),(1003,902),(1004,903),(1005,904),(1006,905),(1007,14),(1008,906)] [(0,930),(1,931),(2,932),(3,933),(4,934),(5,935),(6,950)] ?_;(conv=>whnf);refine dG hn ?_)
  obtain ⟨j,rfl⟩:∃ j',j=j'+1:=⟨j-1,by omega⟩
  rw [zgn,n2] at k1;exact ⟨⟨(j,u,b),k1,n5.mono zz0,by dsimp only;omega,by dsimp only;omega⟩,(zdi [(2,some 2),(16,some 16),(14,some 14),(900,some 930),(901,some 931),(902,some 932),(903,some 933),(904,some 934),(905,some 935),(906,some 950)]),by dsimp only;omega⟩
 case inl =>
  dsimp only at n1;rw [n1] at hn;rw [zxv n2] at k1;subst k1
  (refine zac [] [(1000,16),(1001,900),(1002,901),(1003,902),(1004,903),(1005,904),(1006,905),(1007,14),(1008,906)] [(0,930),(1,931),(2,932),(3,933),(4,934),(5,935),(6,950)] ?_;(conv=>whnf);refine dG hn ?_)
  (refine zac [] [(1000,932)] [(0,960)] ?_;(conv=>whnf);refine dG (Sco.zes t.out t.cum zz85) ?_)
  refine sD ?_;generalize hN:(Sco.zdx t.out t.cum).1=N;have kfew:=k2.pf.few;have kpl:=k2.paths;dsimp only at kfew kpl;refine ⟨{x:List Path×List Path // t.paths=x.1++x.2},fun | ⟨(A,B),_⟩=>hs 106 [(2,.ptr 2 0),(3,zgm),(4,.ptr 16 0),(5,i64 N),(44,i64 t.paths.length),(45,i64 A.length)] (xjc {t with paths:=A.map (zfy t N)++B} a []),fun x=>x.1.2.length,⟨([],t.paths),rfl⟩,?_,?_⟩
  . exact (zdi [(2,some 2),(16,some 16),(14,some 14),(900,some 930),(901,some 931),(902,some 932),(903,some 933),(904,some 934),(905,some 935),(906,some 950)])
  rintro ⟨⟨A,B⟩,h⟩;dsimp only at h;(conv=>whnf);cases B with
  | cons p B =>
   have hz:=zcf h;refine sT ?_;refine sOm ?_;refine zal (a:=A.map (zfy t N)) (b:=B) (s:=p) rfl zz5 (zw ?_);by_cases d1:p.zak>0
   case pos =>
    rw [show decide (p.zak>0)=true from zy15 d1];refine zai rfl (zw ?_)
    repeat refine sG ?_
    refine zal (a:=A.map (zfy t N)) (b:=B) (s:=p) rfl zz5 (zw ?_);by_cases d2:p.zcj=0
    case pos =>
     rw [show (p.zcj==0)=true from zy39.2 d2];(conv=>whnf);refine zal (a:=A.map (zfy t N)) (b:=B) (s:=p) rfl zz5 (zw ?_);refine sR ?_;refine zal (a:=A.map (zfy t N)) (b:=B) (s:=p) rfl zz5 (zw ?_);refine sD ?_;refine sF ?_;exact ⟨⟨(A++[p],B),zar h⟩,(zcu ((2,some 2)::((16,some 16)::((14,some 14)::(pJ7 [])))) zz17),by simp⟩
    case neg =>
     rw [show (p.zcj==0)=false from zy17.2 d2];(conv=>whnf);refine zal (a:=A.map (zfy t N)) (b:=B) (s:=p) rfl zz5 (zw ?_);by_cases d3:p.zak=0
     case pos =>
      rw [show (p.zak==0)=true from zy39.2 d3];refine zai rfl (zw ?_)
      repeat refine sG ?_
      by_cases d4:N=t.cum
      case pos =>
       rw [show (N==t.cum)=true from zy39.2 d4];(conv=>whnf);have d6:zfy t N p={p with zcj:=0}:=by rw [zfy,zy0 (fun h=>d2 h.2),zy1 ⟨d3,d4⟩]
       exact yy68
      case neg =>
       rw [show (N==t.cum)=false from zy17.2 d4];(conv=>whnf);have d6:zfy t N p=p:=by rw [zfy,zy0 (fun h=>d2 h.2),zy0 (fun h=>d4 h.2)]
       exact yy27
     case neg =>
      rw [show (p.zak==0)=false from zy17.2 d3];(conv=>whnf);have d6:zfy t N p=p:=by rw [zfy,zy0 (fun h=>d2 h.2),zy0 (fun h=>d3 h.1)]
      exact yy27
   case neg =>
    rw [show decide (p.zak>0)=false from zy18 d1];(conv=>whnf);refine zal (a:=A.map (zfy t N)) (b:=B) (s:=p) rfl zz5 (zw ?_);by_cases d3:p.zak=0
    case pos =>
     rw [show (p.zak==0)=true from zy39.2 d3];refine zai rfl (zw ?_)
     repeat refine sG ?_
     by_cases d4:N=t.cum
     case pos =>
      rw [show (N==t.cum)=true from zy39.2 d4];(conv=>whnf);have d6:zfy t N p={p with zcj:=0}:=by rw [zfy,zy0 (fun h=>d1 h.1),zy1 ⟨d3,d4⟩]
      exact yy68
     case neg =>
      rw [show (N==t.cum)=false from zy17.2 d4];(conv=>whnf);have d6:zfy t N p=p:=by rw [zfy,zy0 (fun h=>d1 h.1),zy0 (fun h=>d4 h.2)]
      exact yy27
    case neg =>
     rw [show (p.zak==0)=false from zy17.2 d3];(conv=>whnf);have d6:zfy t N p=p:=by rw [zfy,zy0 (fun h=>d1 h.1),zy0 (fun h=>d3 h.1)]
     exact yy27
  | nil =>
   have hz:=zcw h;rw [zy7] at h;refine sN ?_
   (refine zac [] [(1000,16),(1001,900),(1002,901),(1003,902),(1004,903),(1005,904),(1006,905),(1007,14),(1008,906)] [(0,970)] ?_;(conv=>whnf);refine dG (ybp {t with paths:=A.map (zfy t N)++[]} a zz56 zz0 km.2) ?_)
   exact yy14
theorem yjd (s:zab) (h:PF 62 s) (hm:inI s.config.packet) (h1p:s.paths.length=2) :
 zao Tryz.prog 39 [s.hv] zae (.tup [xfb (zfj s).1 0 1 2 3 4 5,.own 6]) (lk .free (zyl (zfj s).1 0 1 2 3 4 5 [(6,zju (zfj s).2)])):=by
 have h0:=h.g.fit;have e1:PO s.config 62 2 0 ⟨expire s,[[],[]]⟩:=by have:=zok h;rw [h1p] at this;exact this
 have e2:=zmk e1;have e3:=zyy e2;have hF:zgn 61 (again (forward ⟨expire s,[[],[]]⟩))=zhz s:=by rw [zhz,h1p];rfl
 have hfew:=e2.pf.few;rw [show zfj s=(ygs (zhz s).s,zby s.config.packet 0 (zhz s).out) from rfl];generalize zhz s=F at hF ⊢;dsimp only;refine zan mixed Tryz.func39 zz4 [] (fun _=>.inl rfl) ?_;(conv=>whnf)
 (refine zas [(0,20),(1,21),(2,22),(3,23),(4,24),(5,25)]  ?_;(conv=>whnf);refine dO (zdc s h0) ?_)
 refine zaa ⟨by omega,rfl,by rw [zy2,h1p];decide⟩ (zw ?_);refine ⟨2,by rw [zy2,h1p],by decide,zw ?_⟩;refine sD ?_
 (refine zac [] [(1000,16),(1001,20),(1002,21),(1003,22),(1004,23),(1005,24),(1006,25),(1007,14)] [(0,930),(1,931),(2,932),(3,933),(4,934),(5,935)] ?_;(conv=>whnf);refine dG (yfz s h.g) ?_)
 (refine zac [] [(1000,16),(1001,930),(1002,931),(1003,932),(1004,933),(1005,934),(1006,935),(1007,14)] [(0,940),(1,941)] ?_;(conv=>whnf);refine dG (ybn (expire s) zz84 e1.paths) ?_)
 generalize forward ⟨expire s,[[],[]]⟩=P1 at e2 e3 hF hfew ⊢;obtain ⟨t1,o1⟩:=P1;obtain ⟨a1,b1,rfl⟩:=ywc e2.outs
 (refine zac [] [(1000,16),(1001,930),(1002,931),(1003,932),(1004,933),(1005,934),(1006,935),(1007,14),(1008,940),(1009,941)] [(0,950),(1,951)] ?_;(conv=>whnf);refine dG (yiz t1 a1 b1 (by dsimp only at hfew;omega) e2.paths (by have:=(e2.most a1 (by simp)).1;have:=(e2.most b1 (by simp)).1;omega)) ?_)
 generalize again ⟨t1,[a1,b1]⟩=P2 at e3 hF ⊢;obtain ⟨t2,o2⟩:=P2;obtain ⟨a2,b2,rfl⟩:=ywc e3.outs;dsimp only at hfew;refine ⟨{x:Nat×zab×List Chunk×List Chunk // zgn x.1 ⟨x.2.1,[x.2.2.1,x.2.2.2]⟩=F/\PO s.config (x.1+1) 2 (2 ^ 27+99-x.1) ⟨x.2.1,[x.2.2.1,x.2.2.2]⟩/\61<=x.1+x.2.1.out.length/\x.1<=61},
  fun | ⟨(j,t,a,b),_⟩=>hs 106 [(2,.ptr 2 0),(3,zgm),(4,.ptr 16 0)] (xjd t a b []),fun x=>x.1.1,⟨(61,t2,a2,b2),hF,e3.mono zz16,by dsimp only;omega,by dsimp only;omega⟩,?_,?_⟩
 . exact (zdi [(2,some 2),(16,some 16),(14,some 14),(900,some 930),(901,some 931),(902,some 932),(903,some 933),(904,some 934),(905,some 935),(906,some 950),(907,some 951)])
 rintro ⟨⟨j,t,a,b⟩,k1,k2,k3,k4⟩;dsimp only at k1 k2 k3 k4;have km:=k2.most a zz5;have kn:=k2.most b zz5;(conv=>whnf);have hn:=ypo t a b k2.pf.nfit k2.paths zz0;rcases yim k2 with ⟨n1,n2⟩ | ⟨q,n1,n2,n3,n4,n5⟩
 case inr =>
  obtain ⟨u,o⟩:=q;have n6:=n5.outs;obtain ⟨a',b',rfl⟩:=ywc n6;dsimp only at n1 n3 n4;rw [n1] at hn
  (refine zac [] [(1000,16),(1001,900),(1002,901),(1003,902),(1004,903),(1005,904),(1006,905),(1007,14),(1008,906),(1009,907)] [(0,930),(1,931),(2,932),(3,933),(4,934),(5,935),(6,950),(7,951)] ?_;(conv=>whnf);refine dG hn ?_)
  obtain ⟨j,rfl⟩:∃ j',j=j'+1:=⟨j-1,by omega⟩
  rw [zgn,n2] at k1;exact ⟨⟨(j,u,a',b'),k1,n5.mono zz0,by dsimp only;omega,by dsimp only;omega⟩,(zdi [(2,some 2),(16,some 16),(14,some 14),(900,some 930),(901,some 931),(902,some 932),(903,some 933),(904,some 934),(905,some 935),(906,some 950),(907,some 951)]),by dsimp only;omega⟩
 case inl =>
  dsimp only at n1;rw [n1] at hn;rw [zxv n2] at k1;subst k1
  (refine zac [] [(1000,16),(1001,900),(1002,901),(1003,902),(1004,903),(1005,904),(1006,905),(1007,14),(1008,906),(1009,907)] [(0,930),(1,931),(2,932),(3,933),(4,934),(5,935),(6,950),(7,951)] ?_;(conv=>whnf);refine dG hn ?_)
  (refine zac [] [(1000,932)] [(0,960)] ?_;(conv=>whnf);refine dG (Sco.zes t.out t.cum zz85) ?_)
  refine sD ?_;generalize hN:(Sco.zdx t.out t.cum).1=N;have kfew:=k2.pf.few;have kpl:=k2.paths;dsimp only at kfew kpl;refine ⟨{x:List Path×List Path // t.paths=x.1++x.2},fun | ⟨(A,B),_⟩=>hs 106 [(2,.ptr 2 0),(3,zgm),(4,.ptr 16 0),(5,i64 N),(44,i64 t.paths.length),(45,i64 A.length)] (xjd {t with paths:=A.map (zfy t N)++B} a b []),fun x=>x.1.2.length,⟨([],t.paths),rfl⟩,?_,?_⟩
  . exact (zdi [(2,some 2),(16,some 16),(14,some 14),(900,some 930),(901,some 931),(902,some 932),(903,some 933),(904,some 934),(905,some 935),(906,some 950),(907,some 951)])
  rintro ⟨⟨A,B⟩,h⟩;dsimp only at h;(conv=>whnf);cases B with
  | cons p B =>
   have hz:=zcf h;refine sT ?_;refine sOm ?_;refine zal (a:=A.map (zfy t N)) (b:=B) (s:=p) rfl zz5 (zw ?_);by_cases d1:p.zak>0
   case pos =>
    rw [show decide (p.zak>0)=true from zy15 d1];refine zai rfl (zw ?_)
    repeat refine sG ?_
    refine zal (a:=A.map (zfy t N)) (b:=B) (s:=p) rfl zz5 (zw ?_);by_cases d2:p.zcj=0
    case pos =>
     rw [show (p.zcj==0)=true from zy39.2 d2];(conv=>whnf);refine zal (a:=A.map (zfy t N)) (b:=B) (s:=p) rfl zz5 (zw ?_);refine sR ?_;refine zal (a:=A.map (zfy t N)) (b:=B) (s:=p) rfl zz5 (zw ?_);refine sD ?_;refine sF ?_;exact ⟨⟨(A++[p],B),zar h⟩,(zcu ((2,some 2)::((16,some 16)::((14,some 14)::(pJ8 [])))) zz17),by simp⟩
    case neg =>
     rw [show (p.zcj==0)=false from zy17.2 d2];(conv=>whnf);refine zal (a:=A.map (zfy t N)) (b:=B) (s:=p) rfl zz5 (zw ?_);by_cases d3:p.zak=0
     case pos =>
      rw [show (p.zak==0)=true from zy39.2 d3];refine zai rfl (zw ?_)
      repeat refine sG ?_
      by_cases d4:N=t.cum
      case pos =>
       rw [show (N==t.cum)=true from zy39.2 d4];(conv=>whnf);have d6:zfy t N p={p with zcj:=0}:=by rw [zfy,zy0 (fun h=>d2 h.2),zy1 ⟨d3,d4⟩]
       exact yy69
      case neg =>
       rw [show (N==t.cum)=false from zy17.2 d4];(conv=>whnf);have d6:zfy t N p=p:=by rw [zfy,zy0 (fun h=>d2 h.2),zy0 (fun h=>d4 h.2)]
       exact yy28
     case neg =>
      rw [show (p.zak==0)=false from zy17.2 d3];(conv=>whnf);have d6:zfy t N p=p:=by rw [zfy,zy0 (fun h=>d2 h.2),zy0 (fun h=>d3 h.1)]
      exact yy28
   case neg =>
    rw [show decide (p.zak>0)=false from zy18 d1];(conv=>whnf);refine zal (a:=A.map (zfy t N)) (b:=B) (s:=p) rfl zz5 (zw ?_);by_cases d3:p.zak=0
    case pos =>
     rw [show (p.zak==0)=true from zy39.2 d3];refine zai rfl (zw ?_)
     repeat refine sG ?_
     by_cases d4:N=t.cum
     case pos =>
      rw [show (N==t.cum)=true from zy39.2 d4];(conv=>whnf);have d6:zfy t N p={p with zcj:=0}:=by rw [zfy,zy0 (fun h=>d1 h.1),zy1 ⟨d3,d4⟩]
      exact yy69
     case neg =>
      rw [show (N==t.cum)=false from zy17.2 d4];(conv=>whnf);have d6:zfy t N p=p:=by rw [zfy,zy0 (fun h=>d1 h.1),zy0 (fun h=>d4 h.2)]
      exact yy28
    case neg =>
     rw [show (p.zak==0)=false from zy17.2 d3];(conv=>whnf);have d6:zfy t N p=p:=by rw [zfy,zy0 (fun h=>d1 h.1),zy0 (fun h=>d3 h.1)]
     exact yy28
  | nil =>
   have hz:=zcw h;rw [zy7] at h;refine sN ?_
   (refine zac [] [(1000,16),(1001,900),(1002,901),(1003,902),(1004,903),(1005,904),(1006,905),(1007,14),(1008,906),(1009,907)] [(0,970)] ?_;(conv=>whnf);refine dG (ybq {t with paths:=A.map (zfy t N)++[]} a b zz56 zz0 zz0 km.2 kn.2) ?_)
   exact yy14
end Snd
namespace Snd
open Ser
theorem zmb (s:zab) (h:PF 62 s) (hm:inI s.config.packet) (hp:s.paths.length=1\/s.paths.length=2) :
 zao Tryz.prog 39 [s.hv] zae (.tup [(zfj s).1.hv,.p (.sl 3 ((zfj s).2.map zaz.row))]) zae:=by
 rcases hp with hp | hp
 . refine zci Tryz.func39 (yjc s h hm hp) ?_
   generalize zfj s=d;(conv=>whnf)
   rfl
 . refine zci Tryz.func39 (yjd s h hm hp) ?_
   generalize zfj s=d;(conv=>whnf)
   rfl
theorem zvt (s:zab) (hs:Fit s):zao Tryz.prog 33 [s.hv] zae s.hv zae:=by
 refine zci Tryz.func33 (zdc s hs) ?_;(conv=>whnf)
 rfl
theorem yvf (s:zab):zao Tryz.prog 38 [s.hv] zae (zbl (calm s)) zae:=by
 refine zap mixed Tryz.func38 zz4 ?_;(conv=>whnf)
 (repeat' (first | (refine zcq ?_;conv=>whnf) | (refine zaa ?_ ?_;(first | kernel_rfl | decide);conv=>whnf) | (refine zbf ?_ ?_;kernel_rfl;conv=>whnf) | (refine znm.go ?_;conv=>whnf) | (refine zah (fun h=>?_) (fun h=>?_)<;>conv=>whnf)))
 all_goals try simp only [zy53,zy61,zy39,zy17,zy48,zy40,zy2] at *
 . have h':s.queue.length=0:=by omega
   show zbl _=zbl _;refine congrArg zbl ?_;rw [zy142];simp only [calm,h',zy39,zy12,zy48,true_and,decide_true];omega
 . have h':s.queue.length≠0:=by omega
   show zbl _=zbl _;refine congrArg zbl ?_;rw [calm,zy18 h',Bool.false_and]
def zoa (c:Config):Int :=
 if c.streams<1\/c.streams>4\/c.paths<1\/c.paths>2\/c.part<1\/c.part>16\/c.packet<40\/c.packet>120\/c.waiting<1\/c.waiting>12\/c.first<0\/c.first>=65536 then 3 else
 if (c).turns<1\/(c).turns>5 then 1 else 0
theorem yvy (c:Config):zao Tryz.prog 29 [c.hv] zae (i64 (zoa c)) zae:=by
 refine zap mixed Tryz.func29 zz4 ?_;(conv=>whnf)
 (repeat' (first | (refine zcq ?_;conv=>whnf) | (refine zaa ?_ ?_;(first | kernel_rfl | decide);conv=>whnf) | (refine zbf ?_ ?_;kernel_rfl;conv=>whnf) | (refine znm.go ?_;conv=>whnf) | (refine zah (fun h=>?_) (fun h=>?_)<;>conv=>whnf)))
 all_goals try simp only [zy53,zy61,zy39,zy17,zy48,zy40] at *
 all_goals first | (simp only [zoa];(repeat' split)<;>first | rfl | omega) | trace_state
end Snd
namespace Snd
open Ser
def zsl (s:zab) (m:Message):zab×Int×Int:=if zex s m=0 then (zij s m,(s.fates.length:Int),0) else (noS,0,zex s m)
theorem ztd {s:zab} {m:Message} {e:Int} (h:zex s m=e) (he:e≠0):zsl s m=(noS,0,e):=by rw [zsl,h,zy0 he]
theorem yfr {s:zab} {m:Message} (h:zex s m=0):zsl s m=(zij s m,(s.fates.length:Int),0):=by rw [zsl,zy1 h]
theorem ypt (s:zab) (m:Message) (hs:Fit s) (hd:m.data.length<2 ^ 38) :
 zao Tryz.prog 31 [s.hv,m.hv] zae (.tup [xfb (zsl s m).1 0 1 2 3 4 5,i64 (zsl s m).2.1,i64 (zsl s m).2.2]) (lk .free (zyl (zsl s m).1 0 1 2 3 4 5 [])):=by
 have hs':=hs;obtain ⟨h1,h2,h3,h4,h5,h6,h7⟩:=hs;refine zan mixed Tryz.func31 zz4 [] (fun _=>.inl rfl) ?_;(conv=>whnf)
 (repeat' (first | (refine zcq ?_;conv=>whnf) | (refine zaa ?_ ?_;(first | kernel_rfl | decide);conv=>whnf) | (refine zbf ?_ ?_;kernel_rfl;conv=>whnf) | (refine znm.go ?_;conv=>whnf) | (refine zah (fun h=>?_) (fun h=>?_)<;>conv=>whnf)))
 all_goals try simp only [zy53,zy61,zy39,zy17,zy48,zy40,zy2] at *
 all_goals first
  | (rw [ztd (e:=3) (by simp only [zex];(repeat' split)<;>first | rfl | omega) (by decide)];exact zam [(0,none),(1,none),(2,none),(3,none),(4,none),(5,none)] rfl rfl trivial rfl rfl ⟨⟨rfl,.inr ⟨rfl,rfl⟩⟩,⟨rfl,.inr ⟨rfl,rfl⟩⟩,⟨rfl,.inr ⟨rfl,rfl⟩⟩,⟨rfl,.inr ⟨rfl,rfl⟩⟩,⟨rfl,.inr ⟨rfl,rfl⟩⟩,⟨rfl,.inr ⟨rfl,rfl⟩⟩,trivial⟩)
  | (rw [ztd (e:=4) (by simp only [zex];(repeat' split)<;>first | rfl | omega) (by decide)];exact zam [(0,none),(1,none),(2,none),(3,none),(4,none),(5,none)] rfl rfl trivial rfl rfl ⟨⟨rfl,.inr ⟨rfl,rfl⟩⟩,⟨rfl,.inr ⟨rfl,rfl⟩⟩,⟨rfl,.inr ⟨rfl,rfl⟩⟩,⟨rfl,.inr ⟨rfl,rfl⟩⟩,⟨rfl,.inr ⟨rfl,rfl⟩⟩,⟨rfl,.inr ⟨rfl,rfl⟩⟩,trivial⟩)
  | (rw [ztd (e:=7) (by simp only [zex];(repeat' split)<;>first | rfl | omega) (by decide)];exact zam [(0,none),(1,none),(2,none),(3,none),(4,none),(5,none)] rfl rfl trivial rfl rfl ⟨⟨rfl,.inr ⟨rfl,rfl⟩⟩,⟨rfl,.inr ⟨rfl,rfl⟩⟩,⟨rfl,.inr ⟨rfl,rfl⟩⟩,⟨rfl,.inr ⟨rfl,rfl⟩⟩,⟨rfl,.inr ⟨rfl,rfl⟩⟩,⟨rfl,.inr ⟨rfl,rfl⟩⟩,trivial⟩)
  | rw [yfr (by simp only [zex];(repeat' split)<;>first | rfl | omega)]
 (refine zas [(0,20),(1,21),(2,22),(3,23),(4,24),(5,25)]  ?_;(conv=>whnf);refine dO (zdc s hs') ?_)
 (refine zas [(0,26)]  ?_;(conv=>whnf);refine dO (Cl.zcs m.data zz0) ?_)
 refine zaa (c:=((s.queue.map zaf.row).length+1)*96<=140737488355328) zz3 (zw ?_);refine zaa (c:=((s.fates.map fun n=>[pi n]).length+1)*8<=140737488355328) zz3 (zw ?_);refine zam [(0,some 80),(1,some 21),(2,some 22),(3,some 23),(4,some 24),(5,some 85)] rfl rfl trivial rfl (by rw [show (s.fates.length:Int)=((s.fates.map fun n=>[pi n]).length:Nat) by rw [zy2]];rfl) ⟨⟨rfl,.inl ⟨80,rfl,?_⟩⟩,⟨rfl,.inl ⟨21,rfl,rfl⟩⟩,⟨rfl,.inl ⟨22,rfl,rfl⟩⟩,⟨rfl,.inl ⟨23,rfl,rfl⟩⟩,⟨rfl,.inl ⟨24,rfl,rfl⟩⟩,⟨rfl,.inl ⟨85,rfl,?_⟩⟩,trivial⟩
 . exact zca (f:=zaf.row) rfl (by rw [zy2];rfl)
 . exact zca (f:=fun n:Int=>[pi n]) rfl rfl
theorem zpk (s:zab) (m:Message) (hs:Fit s) (hd:m.data.length<2 ^ 38) :
 zao Tryz.prog 31 [s.hv,m.hv] zae (.tup [(zsl s m).1.hv,i64 (zsl s m).2.1,i64 (zsl s m).2.2]) zae:=by
 refine zci Tryz.func31 (ypt s m hs hd) ?_;generalize zsl s m=d;(conv=>whnf)
 rfl
end Snd
namespace Snd
open Ser
theorem yon {l:List zbs} (i:Int) (h:Sco.zga l):Sco.zga (l.map (Sco.late i)):=⟨by simpa using h.len,by
 have:Sco.total (l.map (Sco.late i))=Sco.total l:=by
  simp only [Sco.total,zy95];congr 1;apply zy84;intro x _;simp only [Function.comp,Sco.late];split<;>rfl
 rw [this];exact h.bytes⟩
def yif (part:Int) (s:zab) (i:Nat) (p:Path):zab:={s with out:=s.out.map (Sco.late i),paths:=s.paths.set i (Paths.late p part)}
theorem zxu {part:Int} {s:zab} {i:Nat} {p:Path} (hp:s.paths[i]?=some p) (h:p.zcj=0\/s.clock<p.zcj):zel part s i=s:=by
 simp only [zel,hp];rw [zy1 h]
theorem yye {part:Int} {s:zab} {i:Nat} {p:Path} (hp:s.paths[i]?=some p) (h:¬ (p.zcj=0\/s.clock<p.zcj)):zel part s i=if (Sco.zdx (yif part s i p).out s.cum).1>s.cum then {yif part s i p with forward:=true} else yif part s i p:=by
 simp only [zel,hp];rw [zy0 h];rfl
abbrev tkF (s t:zab):List (Nat×zad):=(1,.live (.cells 32 (xbq s (Sch.qs s.queue) (ints s.sched.had) (Sco.zsm s.out) (xhz s.paths) (ints s.mids) (ints s.fates))))::(2,.live (.cells 32 yqg))::(3,.live (.cells 32 (xbq t (.own 900) (.own 901) (.own 902) (.own 903) (.own 904) (.own 905))))::zyl t 900 901 902 903 904 905 []
theorem ypx (s:zab) (hs:Fit s):zao Tryz.prog 36 [s.hv] zae (xfb (tick s) 0 1 2 3 4 5) (lk .free (zyl (tick s) 0 1 2 3 4 5 [])):=by
 have hs':=hs;obtain ⟨h1,h2,h3,h4,h5,h6,h7⟩:=hs;have hT:(List.range s.paths.length).foldl (zel s.config.part) {s with clock:=W (s.clock+1)}=tick s:=rfl;generalize tick s=T at hT ⊢;refine zan mixed Tryz.func36 zz4 [] (fun _=>.inl rfl) ?_;(conv=>whnf)
 (refine zas [(0,20),(1,21),(2,22),(3,23),(4,24),(5,25)]  ?_;(conv=>whnf);refine dO (zdc s hs') ?_)
 refine sR ?_;refine ⟨{x:Nat×zab // x.1<=s.paths.length/\(List.range x.1).foldl (zel s.config.part) {s with clock:=W (s.clock+1)}=x.2/\Sco.zga x.2.out/\x.2.paths.length=s.paths.length},
  fun | ⟨(i,t),_⟩=>hs 61 [(1,.ptr 1 0),(2,.ptr 2 0),(3,.ptr 3 0),(15,.own 903),(16,i64 s.paths.length),(17,i64 i)] (tkF s t),fun x=>s.paths.length-x.1.1,⟨(0,{s with clock:=W (s.clock+1)}),by dsimp only;omega,rfl,h3,rfl⟩,?_,?_⟩
 . exact (zdi [(1,some 1),(2,some 2),(3,some 3),(900,some 20),(901,some 21),(902,some 22),(903,some 23),(904,some 24),(905,some 25)])
 rintro ⟨⟨i,t⟩,k1,k2,k3,k4⟩;dsimp only at k1 k2 k3 k4;(conv=>whnf);by_cases hi:i<s.paths.length
 case neg =>
  have hin:i=s.paths.length:=by omega
  subst hin;refine sN ?_;rw [hT] at k2;subst k2;exact zam [(0,some 900),(1,some 901),(2,some 902),(3,some 903),(4,some 904),(5,some 905)] rfl rfl trivial rfl rfl ⟨⟨rfl,.inl ⟨900,rfl,rfl⟩⟩,⟨rfl,.inl ⟨901,rfl,rfl⟩⟩,⟨rfl,.inl ⟨902,rfl,rfl⟩⟩,⟨rfl,.inl ⟨903,rfl,rfl⟩⟩,⟨rfl,.inl ⟨904,rfl,rfl⟩⟩,⟨rfl,.inl ⟨905,rfl,rfl⟩⟩,trivial⟩
 case pos =>
  obtain ⟨p,hp⟩:∃ p,t.paths[i]?=some p:=⟨_,zy3 zz0⟩
  have hst:=zmn (zel s.config.part) {s with clock:=W (s.clock+1)} i;rw [k2] at hst;refine sT ?_;refine sOm ?_;refine zaj hp rfl (zw ?_);by_cases c1:p.zcj=0
  case pos =>
   rw [show (p.zcj==0)=true from zy39.2 c1];(conv=>whnf);refine sF ?_;exact ⟨⟨(i+1,t),by dsimp only;omega,by rw [hst,zxu hp (.inl c1)],k3,k4⟩,(zcu ((1,some 1)::(2,some 2)::(3,some 3)::(pJ6 [])) zz2),by dsimp only;omega⟩
  case neg =>
   rw [show (p.zcj==0)=false from zy17.2 c1];refine zag rfl (zw ?_)
   repeat refine sG ?_
   by_cases c2:t.clock<p.zcj
   case pos =>
    rw [show decide (t.clock<p.zcj)=true from zy15 c2];(conv=>whnf);refine sF ?_;exact ⟨⟨(i+1,t),by dsimp only;omega,by rw [hst,zxu hp (.inr c2)],k3,k4⟩,(zcu ((1,some 1)::(2,some 2)::(3,some 3)::(pJ6 [])) zz2),by dsimp only;omega⟩
   case neg =>
    rw [show decide (t.clock<p.zcj)=false from zy18 c2];(conv=>whnf);have hgo:=yye (part:=s.config.part) hp (fun h=>h.elim c1 c2)
    (refine zas [(0,35)]  ?_;(conv=>whnf);refine dO (Sco.zvq t.out i k3) ?_)
    (refine cL ?_;refine dL (Paths.zvq p s.config.part) ?_)
    refine zaa ⟨by omega,by rw [zy2];omega⟩ (zw ?_);refine zaj hp rfl (zw ?_);refine sD ?_
    (refine zac [] [(1000,35)] [(0,51)] ?_;(conv=>whnf);refine dG (Sco.zes (t.out.map (Sco.late i)) t.cum (by rw [zy2];exact k3.len)) ?_)
    have hsz:=yon i k3;by_cases c3:(Sco.zdx (t.out.map (Sco.late i)) t.cum).1>t.cum
    case pos =>
     rw [zy1 (show (Sco.zdx (yif s.config.part t i p).out t.cum).1>t.cum from c3)] at hgo;refine zai ?_ ?_
     . simpa using c3
     (conv=>whnf);refine sF ?_;exact ⟨⟨(i+1,{yif s.config.part t i p with forward:=true}),by dsimp only;omega,by rw [hst,hgo],hsz,by show (t.paths.set i _).length=_;rw [zy28];exact k4⟩,(zcu [(1,some 1),(2,some 2),(3,some 3),(900,some 900),(901,some 901),(902,some 35),(903,some 903),(904,some 904),(905,some 905)] zz33),by dsimp only;omega⟩
    case neg =>
     rw [zy0 (show ¬ (Sco.zdx (yif s.config.part t i p).out t.cum).1>t.cum from c3)] at hgo;refine zag ?_ ?_
     . simpa using c3
     (conv=>whnf);refine sF ?_;exact ⟨⟨(i+1,yif s.config.part t i p),by dsimp only;omega,by rw [hst,hgo],hsz,by show (t.paths.set i _).length=_;rw [zy28];exact k4⟩,(zcu [(1,some 1),(2,some 2),(3,some 3),(900,some 900),(901,some 901),(902,some 35),(903,some 903),(904,some 904),(905,some 905)] zz33),by dsimp only;omega⟩
theorem yvv (s:zab) (hs:Fit s):zao Tryz.prog 36 [s.hv] zae (tick s).hv zae:=by
 refine zci Tryz.func36 (ypx s hs) ?_;generalize tick s=d;(conv=>whnf)
 rfl
end Snd
namespace Snd
open Ser
def ywi (c:Config):zab×Int:=if zoa c=0 then (yor c,0) else (noS,zoa c)
theorem yvk (n:Int) (hb:n<2 ^ 40):zao Tryz.prog 66 [i64 n] zae (.agg [i64 (Sch.new n).last,i64 (Sch.new n).hand,.own 0]) (lk .free [(0,ypc (Sch.new n).had)]):=by
 refine zan mixed Tryz.func66 zz4 [] (fun _=>.inl rfl) ?_;(conv=>whnf);refine zcq (zw ?_);refine zaa (c:=0<=(if 0>n then 0 else n)/\(if 0>n then 0 else n)=(if 0>n then 0 else n)/\(if 0>n then 0 else n)*8<=140737488355328) zz0 ?_;(conv=>whnf);refine zam [(0,some 7)] rfl rfl trivial rfl rfl ⟨⟨rfl,.inl ⟨7,rfl,?_⟩⟩,trivial⟩;have e:(if 0>n then 0 else n)=max n 0:=by omega
 refine zaq ?_;rw [show (Sch.new n).had=List.replicate (max n 0).toNat 0 from rfl,zy145,<- e];rfl
theorem yvl (c:Config):zao Tryz.prog 26 [c.hv] zae (.tup [xfb (ywi c).1 0 1 2 3 4 5,i64 (ywi c).2]) (lk .free (zyl (ywi c).1 0 1 2 3 4 5 [])):=by
 refine zan mixed Tryz.func26 zz4 [] (fun _=>.inl rfl) ?_;(conv=>whnf)
 (refine cP ?_;refine dL (yvy c) ?_)
 by_cases c0:zoa c=0
 case neg =>
  rw [ywi,zy0 c0];refine zai ?_ ?_
  . simpa using c0
  (conv=>whnf);refine zam [(0,none),(1,none),(2,none),(3,none),(4,none),(5,none)] rfl rfl trivial rfl rfl ⟨⟨rfl,.inr ⟨rfl,rfl⟩⟩,⟨rfl,.inr ⟨rfl,rfl⟩⟩,⟨rfl,.inr ⟨rfl,rfl⟩⟩,⟨rfl,.inr ⟨rfl,rfl⟩⟩,⟨rfl,.inr ⟨rfl,rfl⟩⟩,⟨rfl,.inr ⟨rfl,rfl⟩⟩,trivial⟩
 case pos =>
  rw [ywi,zy1 c0];refine zag ?_ ?_
  . simpa using c0
  conv=>whnf
  repeat refine sG ?_
  have hb:1<=c.streams/\c.streams<=4/\1<=c.paths/\c.paths<=2/\0<=c.first/\c.first<65536:=by
   unfold zoa at c0;split at c0
   . cases c0
   . omega
  obtain ⟨b1,b2,b3,b4,b5,b6⟩:=hb
  (refine zas [(0,15)]  ?_;(conv=>whnf);refine dO (yvk c.streams zz0) ?_)
  refine zat (z:=c.first-1) (zbi zz0 zz0) (zw ?_);refine zat (z:=2*c.streams) (zbi zz0 zz0) (zw ?_);refine zaa (c:=0<=2*c.streams/\2*c.streams=2*c.streams/\2*c.streams*(8:Nat)<=140737488355328) ⟨by omega,rfl,by omega⟩ (zw ?_);refine zat (z:=c.first-1) (zbi zz0 zz0) (zw ?_);refine sD ?_;have hnn:(2*c.streams).toNat=(2*c.streams).toNat:=rfl;refine ⟨{i:Nat // (i:Int)<=c.paths},fun | ⟨i,_⟩=>hs 43 [(1,.ptr 1 0),(2,.ptr 2 0),(3,i64 0),(5,.ptr 5 0),(30,i64 c.paths),(31,i64 i)] [(1,.live (.cells 24 [i64 c.streams,i64 c.part,i64 c.packet,i64 c.paths,i64 (c).turns,i64 c.waiting,i64 c.first])),(2,.live (.cells 32 yqg)),(5,.live (.cells 32 (xbq (yor c) zgm (.own 901) zgm (.own 900) (.own 902) zgm))),(900,xjf (List.replicate i (Paths.new c.part))),(901,ypc (Sch.new c.streams).had),(902,ypc (List.replicate (2*c.streams).toNat 0))],fun i=>c.paths.toNat-i.1,⟨0,by omega⟩,?_,?_⟩
  . exact (zcu [(1,some 1),(2,some 2),(5,some 5),(900,none),(901,some 15),(902,some 24)] (by repeat' (first | exact z0 | refine z1 ?_ | refine ⟨?_,?_⟩ | ((exact zaq (by rw [zy145];rfl))) | exact z2)))
  rintro ⟨i,k1⟩;(conv=>whnf);by_cases hi:(i:Int)<c.paths
  case pos =>
   refine sT ?_
   (refine cL ?_;refine dL (Paths.zpi c.part) ?_)
   refine zaa (c:=(((List.replicate i (Paths.new c.part)).map Path.row).length+1)*56<=140737488355328) zz3 (zw ?_);refine sD ?_;refine sF ?_;exact ⟨⟨i+1,by omega⟩,(zcu [(1,some 1),(2,some 2),(5,some 5),(900,some 39),(901,some 901),(902,some 902)] (by repeat' (first | exact z0 | refine z1 ?_ | refine ⟨?_,?_⟩ | ((exact zca (f:=Path.row) List.replicate_succ' rfl)) | exact z2))),by dsimp only;omega⟩
  case neg =>
   refine sN ?_;have hin:c.paths.toNat=i:=by omega
   refine zam [(0,none),(1,some 901),(2,none),(3,some 900),(4,some 902),(5,none)] rfl rfl trivial rfl rfl ⟨⟨rfl,.inr ⟨rfl,rfl⟩⟩,⟨rfl,.inl ⟨901,rfl,rfl⟩⟩,⟨rfl,.inr ⟨rfl,rfl⟩⟩,⟨rfl,.inl ⟨900,rfl,?_⟩⟩,⟨rfl,.inl ⟨902,rfl,rfl⟩⟩,⟨rfl,.inr ⟨rfl,rfl⟩⟩,trivial⟩;exact zaq (by rw [yor,hin])
theorem zpi (c:Config):zao Tryz.prog 26 [c.hv] zae (.tup [(ywi c).1.hv,i64 (ywi c).2]) zae:=by
 refine zci Tryz.func26 (yvl c) ?_;generalize ywi c=d;(conv=>whnf)
 rfl
end Snd
namespace Snd
open Ser
theorem zwk {g:FuncId} {c1:List PV} {p:zaf->Bool} (hg:∀ m:zaf,zao Tryz.prog g [m.hv,.rp c1] zae (zbl (p m)) zae) (q:List zaf) (hb:q.length<2 ^ 62) :
 zao Tryz.prog 158 [.p (.sl 10 (q.map zaf.row)),.clo g [.rp c1]] zae (i64 (zbr p 0 q)) zae:=by
 refine zap mixed Tryz.func158 zz4 ?_;(conv=>whnf);refine ⟨{k:Nat // k<=q.length/\zbr p k (q.drop k)=zbr p 0 q},fun | ⟨k,_⟩=>hs 19 [(0,.p (.sl 10 (q.map zaf.row))),(1,.clo g [.rp c1]),(7,i64 (q.map zaf.row).length),(8,i64 k)] [],fun k=>q.length-k.1,⟨0,by simp⟩,?_,?_⟩
 . exact (zdi [])
 . rintro ⟨k,hk,hi⟩
   exact yy6
theorem ynu {g:FuncId} {c1:List PV} {p:zaf->Bool} (hg:∀ m:zaf,zao Tryz.prog g [m.hv,.rp c1] zae (zbl (p m)) zae) (q:List zaf) (hb:q.length<2 ^ 62) :
 zao Tryz.prog 124 [.p (.sl 10 (q.map zaf.row)),.clo g [.rp c1]] zae (zbl (q.any p)) zae:=by
 refine zap mixed Tryz.func124 zz4 ?_;(conv=>whnf)
 (refine cL ?_;refine dL (zwk hg q hb) ?_)
 rw [yai q 0]
theorem yco {g:FuncId} {c1:List PV} {p:zbs->Bool} (hg:∀ m:zbs,zao Tryz.prog g [m.hv,.rp c1] zae (zbl (p m)) zae) (q:List zbs) (hb:q.length<2 ^ 62) :
 zao Tryz.prog 159 [.p (.sl 20 (q.map zbs.row)),.clo g [.rp c1]] zae (i64 (zbr p 0 q)) zae:=by
 refine zap mixed Tryz.func159 zz4 ?_;(conv=>whnf);refine ⟨{k:Nat // k<=q.length/\zbr p k (q.drop k)=zbr p 0 q},fun | ⟨k,_⟩=>hs 19 [(0,.p (.sl 20 (q.map zbs.row))),(1,.clo g [.rp c1]),(7,i64 (q.map zbs.row).length),(8,i64 k)] [],fun k=>q.length-k.1,⟨0,by simp⟩,?_,?_⟩
 . exact (zdi [])
 . rintro ⟨k,hk,hi⟩
   exact yy6
theorem ywu {g:FuncId} {c1:List PV} {p:zbs->Bool} (hg:∀ m:zbs,zao Tryz.prog g [m.hv,.rp c1] zae (zbl (p m)) zae) (q:List zbs) (hb:q.length<2 ^ 62) :
 zao Tryz.prog 126 [.p (.sl 20 (q.map zbs.row)),.clo g [.rp c1]] zae (zbl (q.any p)) zae:=by
 refine zap mixed Tryz.func126 zz4 ?_;(conv=>whnf)
 (refine cL ?_;refine dL (yco hg q hb) ?_)
 rw [yai q 0]
theorem yvr (id:Int) (m:zaf):zao Tryz.prog 125 [m.hv,.rp [pi id]] zae (zbl (decide (m.id=id))) zae:=by
 refine zap mixed Tryz.func125 zz4 ?_;(conv=>whnf)
 try rfl
theorem yvs (id:Int) (x:zbs):zao Tryz.prog 127 [x.hv,.rp [pi id]] zae (zbl (decide (x.id=id)&&decide (x.state≠2))) zae:=by
 refine zap mixed Tryz.func127 zz4 ?_;(conv=>whnf)
 (repeat' (first | (refine zcq ?_;conv=>whnf) | (refine zaa ?_ ?_;(first | kernel_rfl | decide);conv=>whnf) | (refine zbf ?_ ?_;kernel_rfl;conv=>whnf) | (refine znm.go ?_;conv=>whnf) | (refine zah (fun h=>?_) (fun h=>?_)<;>conv=>whnf)))
 all_goals try simp only [zy53,zy61,zy39,zy17,zy48,zy40] at *
 . show zbl _=zbl _
   refine congrArg zbl ?_;rw [zy142];simp [*]
 . show zbl _=zbl _
   refine congrArg zbl ?_;rw [zy142];simp [*]
theorem yaj {α β:Type} (f:Nat->α->β) (A:List α) (p:α) (B:List β):(A++[p]).mapIdx f++B=A.mapIdx f++f A.length p::B:=by
 rw [List.mapIdx_concat];simp
theorem zdz (s:zab)  (hs:Fit s):zao Tryz.prog 82 [.ptr 1000 0] (lk .free (pH0 s )) (.tup []) (lk .free (pD0 (settle s) )):=by
 obtain ⟨h1,h2,h3,h4,h5,h6,h7⟩:=hs;refine zan mixed Tryz.func82 zz4 [1000,1001,1002,1003,1004,1005,1006] zbj ?_;(conv=>whnf);refine ⟨{x:List Int×List Int // s.fates=x.1++x.2},fun | ⟨(A,B),_⟩=>hsP [1000,1001,1002,1003,1004,1005,1006] 41 [(0,.ptr 1000 0),(7,.own 1006),(8,i64 s.fates.length),(9,i64 A.length)] (pH0 {s with fates:=A.mapIdx (settled s)++B} ),fun x=>x.1.2.length,⟨([],s.fates),rfl⟩,?_,?_⟩
 . exact (zbv (pK7 []) zz2)
 rintro ⟨⟨A,B⟩,h⟩;dsimp only at h;(conv=>whnf);cases B with
 | cons f B =>
  have hz:=zcf h;refine sT ?_;refine sOm ?_;refine zal (f:=fun n:Int=>[pi n]) (a:=A.mapIdx (settled s)) (b:=B) (s:=f) rfl zz5 (zw ?_);by_cases c1:f=1
  case neg =>
   rw [show (f==1)=false from zy17.2 c1];(conv=>whnf);refine sF ?_;exact ⟨⟨(A++[f],B),zar h⟩,(zbv (pK7 []) (by repeat' (first | exact z0 | refine z1 ?_ | refine ⟨?_,?_⟩ | ((exact zaq (by rw [yaj,settled,zy0 (fun h=>c1 h.1)]))) | exact z2))),by simp⟩
  case pos =>
   rw [show (f==1)=true from zy39.2 c1];refine zai rfl (zw ?_)
   (refine cL ?_;refine dL (ynu (fun m=>yvr (A.length:Int) m) s.queue zz0) ?_)
   cases c2:(s.queue.any fun m=>decide (m.id=(A.length:Int))) with
   | true =>
    conv=>whnf
    try (refine zag rfl ?_;conv=>whnf)
    (conv=>whnf);refine sF ?_;exact ⟨⟨(A++[f],B),zar h⟩,(zbv (pK7 []) (by repeat' (first | exact z0 | refine z1 ?_ | refine ⟨?_,?_⟩ | ((exact zaq (by rw [yaj,settled,zy0 (fun h=>absurd (c2.symm.trans h.2.1) (by decide))]))) | exact z2))),by simp⟩
   | false =>
    conv=>whnf
    try (refine zai rfl ?_;conv=>whnf)
    repeat refine sG ?_
    (refine cL ?_;refine dL (ywu (fun x=>yvs (A.length:Int) x) s.out (by have:=h3.len;omega)) ?_)
    cases c3:(s.out.any fun x=>decide (x.id=(A.length:Int))&&decide (x.state≠2)) with
    | true =>
     (conv=>whnf);refine sF ?_;exact ⟨⟨(A++[f],B),zar h⟩,(zbv (pK7 []) (by repeat' (first | exact z0 | refine z1 ?_ | refine ⟨?_,?_⟩ | ((exact zaq (by rw [yaj,settled,zy0 (fun h=>absurd (c3.symm.trans h.2.2) (by decide))]))) | exact z2))),by simp⟩
    | false =>
     (conv=>whnf);refine sOm ?_;refine zal (f:=fun n:Int=>[pi n]) (a:=A.mapIdx (settled s)) (b:=B) (s:=f) rfl zz5 (zw ?_);refine sD ?_;refine sF ?_;exact ⟨⟨(A++[f],B),zar h⟩,(zbv (pK7 []) (by repeat' (first | exact z0 | refine z1 ?_ | refine ⟨?_,?_⟩ | ((rw [yaj,settled,zy1 ⟨c1,c2,c3⟩];refine Eq.symm (zeq (f:=fun n:Int=>[pi n]) (a:=A.mapIdx (settled s)) (b:=B) ?_ ?_);all_goals first | rfl | (simp;done))) | exact z2))),by simp⟩
 | nil =>
  have hz:=zcw h;rw [zy7] at h;refine sN ?_
  (exact zdd (pK7 [(0,some 1001),(1,some 1002),(2,some 1003),(3,some 1004),(4,some 1005),(5,some 1006)]) (by repeat' (first | exact z0 | refine z1 ?_ | refine ⟨?_,?_⟩ | ((exact zaq (by rw [settle,h,zy7]))) | exact z2)))
end Snd
namespace Sco
open Ser
theorem ypr (l:List zbs) (cum:Int) (c:Chunk) (paths:Int) (hl:zga l) (hr:yno l cum paths) (hsp:c.zau.length<2 ^ 60) :
 zao Tryz.prog 75 [zsm l,i64 cum,c.hv,i64 paths] zae (.tup [.own 0,i64 (zfl l cum c paths).2.1,.own 1,.own 2]) (lk .free [(0,zjw (zfl l cum c paths).1),(1,yqj (zfl l cum c paths).2.2.1),(2,yqj (zfl l cum c paths).2.2.2)]):=by
 have hl1:=hl.len;have hp0:=hr.p0;have hp1:=hr.p1;have hc0:=hr.c0;have hc1:=hr.c1;refine zan mixed Tryz.func75 zz4 [] (fun _=>.inl rfl) ?_;have hn:=zlt (a:=cum) (t:=c.tag) zz0 zz0;rw [zfl];generalize hN:zdh cum c.tag=n at hn ⊢;(conv=>whnf);refine zaa (c:=0<=(if 0>paths then 0 else paths)/\(if 0>paths then 0 else paths)=(if 0>paths then 0 else paths)/\(if 0>paths then 0 else paths)*8<=140737488355328) zz0 ?_;(conv=>whnf)
 (refine cL ?_;refine dLm (zjz _ _) ?_)
 rw [hN];(conv=>whnf);refine znm.meet PUnit (fun _=>hs 165 [(0,zsm l),(1,i64 cum),(6,.ptr 6 0),(8,zgm),(10,.own 900),(11,zgm),(12,i64 n),(13,i64 (cum+l.length))] [(6,.live (.cells 61 c.cells)),(900,yqj (List.replicate paths.toNat 0))]) ?_ ?_
 . have e21:zad.live (.row 3 1 (List.replicate (if 0>paths then 0 else paths).toNat [pi 0]))=yqj (List.replicate paths.toNat 0):=by
    rw [zy0 (by omega),yqj,zy145]
   (conv=>whnf);refine zah (fun c1=>?_) (fun c1=>?_)
   . have c1:0<l.length:=by simpa using c1
     have e1:=hr.zlc (l.length-1) (l[l.length-1]) (zy3 zz0);(conv=>whnf);refine sF ?_;refine zdn (l.length-1) zz3 zz0 ?_;(conv=>whnf);exact ⟨⟨⟩,(zcu [(6,some 6),(900,some 21)] zz43)⟩
   . have c1:l.length=0:=by simpa using c1
     (conv=>whnf);exact ⟨⟨⟩,(zcu [(6,some 6),(900,some 21)] zz43)⟩
 rintro ⟨⟩;(conv=>whnf);by_cases k1:n<cum\/n>cum+l.length
 . rw [zy1 k1]
   by_cases k2:n<cum
   . refine sT ?_
     exact yy45
   . refine sN ?_
     refine sT ?_;exact yy45
 . rw [zy0 k1]
   refine sN ?_;refine sN ?_
   (refine zas [(0,50)]  ?_;(conv=>whnf);refine dO (zdc l hl) ?_)
   refine ⟨{x:List zbs×List zbs×List zbs×List Int×Int // SI l c n paths.toNat cum x},fun | ⟨(a,b,out,zfs,high),_⟩=>hs 165 [(6,.ptr 6 0),(8,.own 901),(10,.own 900),(11,zgm),(12,i64 n),(14,i64 high),(50,.own 902),(51,i64 l.length),(52,i64 a.length)] [(6,.live (.cells 61 c.cells)),(900,yqj zfs),(901,zjw out),(902,zjw l)],fun x=>x.1.2.1.length,⟨([],l,[],List.replicate paths.toNat 0,0),rfl,rfl,rfl,rfl,zy99 _,by dsimp only;simp;omega⟩,?_,?_⟩
   . exact (zdi [(6,some 6),(900,some 900),(901,none),(902,some 50)])
   rintro ⟨⟨a,b,out,zfs,high⟩,hi⟩;have h:=hi.split;dsimp only at h;cases b with
   | nil =>
    have hz:=zcw h;obtain ⟨h1,h2,h3,h4,h5,h6⟩:=hi;dsimp only at h1 h2 h3 h4 h5 h6;rw [zy7] at h1;subst h1;rw [<- h3,<- h4,<- h2];have hlen:out.length<=l.length:=by rw [h2,left,zy2];exact zy65 _ _
    (conv=>whnf);refine sN ?_;refine ⟨{x:List zbs×List zbs // out=x.1++x.2},fun | ⟨(a,b),_⟩=>hs 165 [(8,.own 901),(10,.own 900),(11,.own 903),(12,i64 n),(14,i64 high),(118,i64 out.length),(119,i64 a.length)] [(900,yqj zfs),(901,zjw (a.map (age high)++b)),(903,yqj (lost high a))],fun x=>x.1.2.length,⟨([],out),rfl⟩,?_,?_⟩
    . exact (zdi [(900,some 900),(901,some 901),(903,none)])
    rintro ⟨⟨a,b⟩,h⟩;dsimp only at h;cases b with
    | nil =>
     have hz:=zcw h;rw [zy7] at h;subst h;(conv=>whnf);refine sN ?_;exact zam [(0,some 901),(1,some 900),(2,some 903)] rfl rfl trivial rfl rfl ⟨⟨rfl,.inl ⟨901,rfl,by exact zaq (by rw [zy7])⟩⟩,⟨rfl,.inl ⟨900,rfl,rfl⟩⟩,⟨rfl,.inl ⟨903,rfl,rfl⟩⟩,trivial⟩
    | cons s b =>
     have hz:=zcf h;have ea:(a++[s]).map (age high)++b=a.map (age high)++age high s::b:=by simp
     have el:lost high (a++[s])=lost high a++lost high [s]:=by simp [lost]
     have hln:(lost high a).length<=a.length:=by rw [lost,zy2];exact zy65 _ _
     (conv=>whnf);refine sT ?_
     (try refine sG ?_)
     refine sO ?_;refine zal (a:=a.map (age high)) (b:=b) (s:=s) rfl zz5 (zw ?_);by_cases c1:s.state=1
     . refine sN ?_
       refine zal (a:=a.map (age high)) (b:=b) (s:=s) rfl zz5 (zw ?_);by_cases c2:s.number<high
       . refine sN ?_
         refine zal (a:=a.map (age high)) (b:=b) (s:=s) rfl zz5 (zw ?_);refine sR ?_;refine zal (a:=a.map (age high)) (b:=b) (s:=s) rfl zz5 (zw ?_);refine zbu zz5 zz5 (zw ?_);by_cases c3:W (s.missed+1)>=3
         . have e1:age high s={s with missed:=W (s.missed+1),state:=3}:=by rw [age,zy1 ⟨c1,c2⟩,zy1 c3]
           have e2:lost high [s]=[s.number]:=by simp [lost,c1,c2,c3]
           refine sT ?_;refine zbu zz5 zz5 (zw ?_);refine zbu zz5 zz5 (zw ?_);refine zaa (c:=(((lost high a).map fun n=>[pi n]).length+1)*8<=140737488355328) zz15 (zw ?_);refine sF ?_;exact ⟨⟨(a++[s],b),zar h⟩,(zcu [(900,some 900),(901,some 901),(903,some 159)] (by repeat' (first | exact z0 | refine z1 ?_ | refine ⟨?_,?_⟩ | ((rw [ea];exact (yzq (by simp) (by rw [e1];rfl)).symm)) | ((rw [el,e2];exact (zkn (f:=fun n=>[pi n]) rfl).symm)) | exact z2))),by simp⟩
         . have e1:age high s={s with missed:=W (s.missed+1)}:=by rw [age,zy1 ⟨c1,c2⟩,zy0 c3]
           have e2:lost high [s]=[]:=by simp [lost,c1,c2,c3]
           refine sN ?_;refine sF ?_;exact ⟨⟨(a++[s],b),zar h⟩,(zcu [(900,some 900),(901,some 901),(903,some 903)] (by repeat' (first | exact z0 | refine z1 ?_ | refine ⟨?_,?_⟩ | ((rw [ea];exact (zeq (by simp) (by rw [e1];rfl)).symm)) | ((rw [el,e2,zy7];rfl)) | exact z2))),by simp⟩
       . have e1:age high s=s:=by rw [age,zy0 fun h=>c2 h.2]
         have e2:lost high [s]=[]:=by simp [lost,c2]
         exact yy90
     . have e1:age high s=s:=by rw [age,zy0 fun h=>c1 h.1]
       have e2:lost high [s]=[]:=by simp [lost,c1]
       exact yy90
   | cons s b =>
    have hz:=zcf h;obtain ⟨hnum,hpa0,hpa1⟩:=hr.at h;have hnx:=hi.next hnum hc0;have hhi:=hi.h1;have hh0:=hi.h0;have hcl:=hi.zfs;have hol:out.length<=a.length:=by have:=hi.out;dsimp only at this;rw [this,left,zy2];exact zy65 _ _
    dsimp only at hhi hh0 hcl;have hcl:zfs.length=paths.toNat:=by rw [hcl,zwz]
    have hby:=hl.bytes;rw [h,zkd,zho] at hby;(conv=>whnf);refine sT ?_;refine sO ?_;refine zal h rfl (zw ?_);by_cases g:s.number>n
    . refine sT ?_
      refine sR ?_
      (refine cL ?_;refine dL (ynd c.zau _ zz0) ?_)
      by_cases hh:has c.zau (W (s.number-n))=true
      . have hk:here c n s=true:=by rw [here,hh];simp
        refine sN ?_;have eA:zad.live (.row 3 1 ((zfs.map fun n=>[pi n]).set s.path.toNat [pi (W (zfs[s.path.toNat]'zz0+((s.chunk.data.map zdv).length:Int)))]))=yqj (zyx zfs s.path s.chunk.data.length):=by
         rw [zyx,yqj,zy107,zy3 (by omega),zy135,zy2]
        by_cases q:s.state=1\/s.state=3
        . have hcm:comes c n s=true:=by rw [comes,hk,zy153];rcases q with q | q<;>rw [q]<;>rfl
          rw [zy1 g,zid,zy1 hcm,zno,zy1 hcm,zbq,zy1 hcm] at hnx;have emx:(if s.number>high then s.number else high)=s.number:=by split<;>omega
          by_cases q1:s.state=1
          . refine sT ?_
            (repeat' (first | refine sT ?_ | refine sN ?_))
            refine sO ?_;refine zdn s.path.toNat zz0 zz0 (zw ?_);refine sR ?_;refine sO ?_;refine zdn s.path.toNat zz0 zz0 (zw ?_);refine sD ?_;exact yy25
          . refine sN ?_
            refine sT ?_
            (repeat' (first | refine sT ?_ | refine sN ?_))
            refine sO ?_;refine zdn s.path.toNat zz0 zz0 (zw ?_);refine sR ?_;refine sO ?_;refine zdn s.path.toNat zz0 zz0 (zw ?_);refine sD ?_;exact yy25
        . have hcm:comes c n s=false:=by
           rw [comes,hk,zy153];simp only [not_or] at q;simp [q.1,q.2]
          rw [zy1 g,zid,zy0 (by rw [hcm];decide),zno,zy0 zz77,zbq,zy0 zz77] at hnx;have q1:s.state≠1:=fun h=>q (.inl h)
          have q2:s.state≠3:=fun h=>q (.inr h)
          refine sN ?_;refine sN ?_;exact yy25
      . have hk:here c n s=false:=by rw [here];simp [hh];omega
        have hcm:comes c n s=false:=by rw [comes,hk];rfl
        rw [zy1 g,zid,zy0 (by rw [hcm];decide),zno,zy0 zz77,zbq,zy0 zz77] at hnx;refine zai (by simpa using hh) (zw ?_);refine zaa (c:=((out.map zbs.row).length+1)*200<=140737488355328) om (zw ?_);refine sF ?_;exact ⟨⟨_,hnx⟩,(zcu [(6,some 6),(900,some 900),(901,some 73),(902,some 902)] (by repeat' (first | exact z0 | refine z1 ?_ | refine ⟨?_,?_⟩ | (exact (zkn (f:=zbs.row) rfl).symm) | exact z2))),by simp⟩
    . have hk:here c n s=true:=by rw [here];simp;left;omega
      refine sN ?_;have eA:zad.live (.row 3 1 ((zfs.map fun n=>[pi n]).set s.path.toNat [pi (W (zfs[s.path.toNat]'zz0+((s.chunk.data.map zdv).length:Int)))]))=yqj (zyx zfs s.path s.chunk.data.length):=by
       rw [zyx,yqj,zy107,zy3 (by omega),zy135,zy2]
      by_cases q:s.state=1\/s.state=3
      . have hcm:comes c n s=true:=by rw [comes,hk,zy153];rcases q with q | q<;>rw [q]<;>rfl
        rw [zy0 g,zid,zy1 hcm,zno,zy1 hcm,zy7] at hnx;have emx:(if s.number>high then s.number else high)=s.number:=by split<;>omega
        by_cases q1:s.state=1
        . refine sT ?_
          exact yy39
        . refine sN ?_
          refine sT ?_;exact yy39
      . have hcm:comes c n s=false:=by
         rw [comes,hk,zy153];simp only [not_or] at q;simp [q.1,q.2]
        rw [zy0 g,zid,zy0 (by rw [hcm];decide),zno,zy0 zz77,zy7] at hnx;have q1:s.state≠1:=fun h=>q (.inl h)
        have q2:s.state≠3:=fun h=>q (.inr h)
        refine sN ?_;refine sN ?_;refine sN ?_;refine sF ?_;exact ⟨⟨_,hnx⟩,(zcu ((6,some 6)::(pJ3 [])) zz29),by simp⟩
end Sco
namespace Snd
open Ser
def zgv (ps:List Path) (part:Int) (moved:Bool) (A:List Int):List Path:=ps.mapIdx fun i p=>if A[i]?.getD 0>0 then Paths.zwj p (A[i]?.getD 0) part moved else p
theorem zzi {ps:List Path} {part:Int} {moved:Bool} {A:List Int}:(zgv ps part moved A)[A.length]?=ps[A.length]?:=by
 rw [zgv,zy47,zy50 (zy20 _)];cases ps[A.length]?<;>simp
theorem zxa {ps:List Path} {part:Int} {moved:Bool} {A:List Int} {n:Int} {p:Path} (hp:ps[A.length]?=some p) :
 zgv ps part moved (A++[n])=(zgv ps part moved A).set A.length (if n>0 then Paths.zwj p n part moved else p):=by
 apply zy70;intro i;rw [zy131,zgv,zgv,zy47,zy47,zy94];have hl:=(zy8.1 hp).1;by_cases hi:A.length=i
 . subst hi
   rw [zy1 rfl,zy1 hl,hp];simp
 . rw [zy0 hi]
   rcases zy81 i A.length with h | h
   . rw [zy33 h]
   . rw [zy50 (l:=A++[n]) (by simp;omega),zy50 (l:=A) h]
theorem yfo {l:List zbs} (h:Sco.zga l) (cum:Int) (c:Chunk) (paths:Int):Sco.zga (Sco.zfl l cum c paths).1:=by
 have hf:∀ (p:zbs->Bool) (l:List zbs),Sco.total (l.filter p)<=Sco.total l:=by
  intro p l
  induction l with
  | nil=>exact zy20 _
  | cons x l ih =>
   rw [zy57,Sco.zho];split
   . rw [Sco.zho];omega
   . omega
 have hm:∀ (f:zbs->zbs) (l:List zbs),(∀ x,(f x).chunk=x.chunk)->Sco.total (l.map f)=Sco.total l:=by
  intro f l hf;simp only [Sco.total,zy95];congr 1;exact zy84 fun s _=>by simp [hf]
 unfold Sco.zfl;split
 . exact h
 . refine ⟨?_,?_⟩
   . have:=zy65 (fun s:zbs=>decide (s.number>zdh cum c.tag)) l
     have:=h.len;simp only [Sco.left,zy2];omega
   . dsimp only
     rw [hm _ _ (fun x=>by unfold Sco.age;(repeat' split)<;>rfl),Sco.left,hm _ _ (fun x=>by unfold Sco.zbq;split<;>rfl)];exact zy149 (hf _ _) h.bytes
def zgs (s:zab) (c:Chunk) (k:List zbs×Int×List Int×List Int):zab:=zej {s with out:=k.1,cum:=k.2.1,room:=c.room,paths:=zgv s.paths s.config.part (decide (k.2.1>s.cum)) k.2.2.1}
def zhs (part:Int) (t:zab) (lost:List Int):zab:=match lost.getLast? with
 | none=>t
 | some z=>if z>t.recover then {t with paths:=setAt t.paths (choose t) fun p=>Paths.ydh p part,recover:=W (t.next-1)} else t
def zem (moved:Bool) (u:zab):zab:=if moved=true/\(Sco.zdx u.out u.cum).1>u.cum then {u with forward:=true} else u
theorem zkh (s:zab) (c:Chunk):heard s c=settle (zem (decide ((Sco.zfl s.out s.cum c s.paths.length).2.1>s.cum)) (zhs s.config.part (zgs s c (Sco.zfl s.out s.cum c s.paths.length)) (Sco.zfl s.out s.cum c s.paths.length).2.2.2)):=rfl
def upS (t:zab) (part:Int) (w:Path):zab:={t with paths:=t.paths.set (choose t) (Paths.ydh w part),recover:=W (t.next-1)}
theorem Fit.fwd {s:zab} (h:Fit s):Fit {s with forward:=true}:=⟨h.queue,h.had,h.out,h.paths,h.mids,h.fates,h.data⟩
theorem Fit.up {s:zab} (h:Fit s) {part:Int} {w:Path}:Fit (upS s part w):=⟨h.queue,h.had,h.out,by show (s.paths.set _ _).length<_;rw [zy28];exact h.paths,h.mids,h.fates,h.data⟩
theorem ypl (s:zab) (c:Chunk) (hs:Fit s) (hr:Sco.yno s.out s.cum s.paths.length) (hsp:c.zau.length<2 ^ 60) :
 zao Tryz.prog 34 [s.hv,c.hv] zae (xfb (zkg s c) 0 1 2 3 4 5) (lk .free (zyl (zkg s c) 0 1 2 3 4 5 [])):=by
 have hs':=hs;obtain ⟨h1,h2,h3,h4,h5,h6,h7⟩:=hs;generalize hT:zkg s c=T;refine zan mixed Tryz.func34 zz4 [] (fun _=>.inl rfl) ?_;(conv=>whnf)
 (refine zas [(0,20),(1,21),(2,22),(3,23),(4,24),(5,25)]  ?_;(conv=>whnf);refine dO (zdc s hs') ?_)
 by_cases c1:c.kind=2
 case neg =>
  rw [zkg,zy1 c1] at hT;subst hT;refine zai ?_ ?_
  . simpa using c1
  exact yy31
 case pos =>
  rw [zkg,zy0 (fun h=>h c1)] at hT;refine zag ?_ ?_
  . simpa using c1
  conv=>whnf
  repeat refine sG ?_
  have hk:=Sco.ypr s.out s.cum c ((s.paths.map Path.row).length:Nat) h3 (by rw [zy2];exact hr) hsp;by_cases k1:zdh s.cum c.tag<s.cum\/zdh s.cum c.tag>s.cum+s.out.length
  case pos =>
   rw [zy1 k1] at hT;subst hT;rw [Sco.zfl,zy1 k1] at hk
   (refine zas [(0,31),(1,32),(2,33)]  ?_;(conv=>whnf);refine dO hk ?_)
   (refine cL ?_;refine dL (zjz s.cum c.tag) ?_)
   refine zai ?_ ?_
   . have:zdh s.cum c.tag≠s.cum:=by omega
     simpa using this
   exact yy31
  case neg =>
   rw [zy0 k1,zkh] at hT;have hks:=yfo h3 s.cum c s.paths.length;have hlo:(Sco.zfl s.out s.cum c s.paths.length).2.2.2.length<=s.out.length:=by
    rw [Sco.zfl,zy0 k1];dsimp only;rw [Sco.lost,zy2];refine zy109 (zy65 _ _) ?_;rw [Sco.left,zy2];exact zy65 _ _
   have hK:(Sco.zfl s.out s.cum c ((s.paths.map Path.row).length:Nat)).2.1=zdh s.cum c.tag:=by rw [Sco.zfl,zy0 k1]
   rw [hK] at hk
   (refine zas [(0,31),(1,32),(2,33)]  ?_;(conv=>whnf);refine dO hk ?_)
   (refine cL ?_;refine dL (zjz s.cum c.tag) ?_)
   rw [show (zdh s.cum c.tag != zdh s.cum c.tag)=false from bne_self_eq_false _];(conv=>whnf);refine sD ?_;have hcl:(Sco.zfl s.out s.cum c ((s.paths.map Path.row).length:Nat)).2.2.1.length=s.paths.length:=by
    rw [Sco.zfl,zy0 k1];simp only [Sco.zwz];rw [zy2];rfl
   have hid:s.paths.mapIdx (fun _ p=>p)=s.paths:=by apply List.ext_getElem<;>simp
   have epl:(s.paths.map Path.row).length=s.paths.length:=zy2 _;rw [<- epl] at hT hks hlo;generalize Sco.zfl s.out s.cum c ((s.paths.map Path.row).length:Nat)=K at hcl hK hk hT hks hlo ⊢;rw [hK] at hT;refine ⟨{x:List Int×List Int // K.2.2.1=x.1++x.2},fun | ⟨(A,B),_⟩=>hs 133 [(2,.ptr 2 0),(4,.ptr 4 0),(5,.ptr 5 0),(9,.own 907),(10,zbl (decide (zdh s.cum c.tag>s.cum))),(55,.own 906),(56,i64 s.paths.length),(57,i64 A.length)] ((2,.live (.cells 32 (xbq s (Sch.qs s.queue) (ints s.sched.had) (Sco.zsm s.out) (xhz s.paths) (ints s.mids) (ints s.fates))))::(4,.live (.cells 32 yqg))::(5,.live (.cells 32 (xbq {s with cum:=zdh s.cum c.tag,room:=c.room} (.own 900) (.own 901) (.own 902) (.own 903) (.own 904) (.own 905))))::zyl {s with out:=K.1,paths:=zgv s.paths s.config.part (decide (zdh s.cum c.tag>s.cum)) A} 900 901 902 903 904 905 [(906,ypc K.2.2.1),(907,ypc K.2.2.2)]),fun x=>x.1.2.length,⟨([],K.2.2.1),rfl⟩,?_,?_⟩
   . exact (zcu [(2,some 2),(4,some 4),(5,some 5),(900,some 20),(901,some 21),(902,some 31),(903,some 23),(904,some 24),(905,some 25),(906,some 32),(907,some 33)] (by repeat' (first | exact z0 | refine z1 ?_ | refine ⟨?_,?_⟩ | ((exact zbk (by rw [zy2];omega))) | ((exact zaq (by simp [zgv,hid]))) | exact z2)))
   rintro ⟨⟨A,B⟩,h⟩;dsimp only at h;(conv=>whnf);cases B with
   | cons n B =>
    have hz:=zcf h;obtain ⟨p,hp⟩:∃ p,s.paths[A.length]?=some p:=⟨_,zy3 zz0⟩
    have hpl:A.length<(zgv s.paths s.config.part (decide (zdh s.cum c.tag>s.cum)) A).length:=by rw [zgv,zy94];omega
    refine sT ?_;refine sOm ?_;refine zal (f:=fun n:Int=>[pi n]) h rfl (zw ?_);by_cases d1:n>0
    case pos =>
     rw [show decide (n>0)=true from zy15 d1];(conv=>whnf);refine zaa ⟨by omega,by rw [zy2];exact_mod_cast hpl⟩ (zw ?_);refine zaj (zzi.trans hp) rfl (zw ?_)
     (refine cL ?_;refine dL (Paths.ype p n s.config.part (decide (zdh s.cum c.tag>s.cum))) ?_)
     refine zaa ⟨by omega,by rw [zy2];exact_mod_cast hpl⟩ (zw ?_);refine zaj (zzi.trans hp) rfl (zw ?_);refine sD ?_;refine sF ?_;exact ⟨⟨(A++[n],B),zar h⟩,(zcu ((2,some 2)::((4,some 4)::(5,some 5)::(pJ8 []))) (by repeat' (first | exact z0 | refine z1 ?_ | refine ⟨?_,?_⟩ | ((exact (zer rfl).trans (zaq (by rw [zxa hp,zy1 d1];rfl)))) | exact z2))),by simp⟩
    case neg =>
     rw [show decide (n>0)=false from zy18 d1];(conv=>whnf);refine sF ?_;exact ⟨⟨(A++[n],B),zar h⟩,(zcu ((2,some 2)::((4,some 4)::(5,some 5)::(pJ8 []))) (by repeat' (first | exact z0 | refine z1 ?_ | refine ⟨?_,?_⟩ | ((exact zaq (by rw [zxa hp,zy0 d1,zpb (zzi.trans hp)]))) | exact z2))),by simp⟩
   | nil =>
    have hz:=zcw h;rw [zy7] at h;refine sN ?_;have hcp:(zgv s.paths s.config.part (decide (zdh s.cum c.tag>s.cum)) A).length=s.paths.length:=by rw [zgv,zy94]
    (refine zac [] [(1000,5),(1001,900),(1002,901),(1003,902),(1004,903),(1005,904),(1006,905)] [(0,930),(1,931),(2,932),(3,933),(4,934),(5,935)] ?_;(conv=>whnf);refine dG (ybl {s with cum:=zdh s.cum c.tag,room:=c.room,out:=K.1,paths:=zgv s.paths s.config.part (decide (zdh s.cum c.tag>s.cum)) A} hks zz16) ?_)
    rw [show zgs s c K=zej {s with cum:=zdh s.cum c.tag,room:=c.room,out:=K.1,paths:=zgv s.paths s.config.part (decide (zdh s.cum c.tag>s.cum)) A} by rw [zgs,hK,h]] at hT;have hfl:(zej {s with cum:=zdh s.cum c.tag,room:=c.room,out:=K.1,paths:=zgv s.paths s.config.part (decide (zdh s.cum c.tag>s.cum)) A}).paths.length=s.paths.length:=by
     show (List.mapIdx _ _).length=_;rw [zy94];exact hcp
    have hfo:(zej {s with cum:=zdh s.cum c.tag,room:=c.room,out:=K.1,paths:=zgv s.paths s.config.part (decide (zdh s.cum c.tag>s.cum)) A}).out=K.1:=rfl;have hft:Fit (zej {s with cum:=zdh s.cum c.tag,room:=c.room,out:=K.1,paths:=zgv s.paths s.config.part (decide (zdh s.cum c.tag>s.cum)) A}):=⟨h1,h2,hks,by omega,h5,h6,h7⟩
    generalize zej {s with cum:=zdh s.cum c.tag,room:=c.room,out:=K.1,paths:=zgv s.paths s.config.part (decide (zdh s.cum c.tag>s.cum)) A}=t at hT hfl hfo hft ⊢;generalize decide (zdh s.cum c.tag>s.cum)=mv at hT ⊢;have hpl:=hr.p0;obtain ⟨hch,hch2⟩:=zed (s:=t) zz0;obtain ⟨w,hw⟩:∃ w,t.paths[choose t]?=some w:=⟨_,zy3 hch2⟩
    obtain ⟨K1,K2,K3,K4⟩:=K;dsimp only at hT hcl hK hks h hz hfo hlo ⊢;rcases zy134 K4 with rfl | ⟨L,z,rfl⟩
    case inl =>
     rw [show zhs s.config.part t []=t from rfl] at hT;(conv=>whnf);refine sD ?_;exact yy4
    case inr =>
     rw [zy117] at hT ⊢;have hU:zhs s.config.part t (L++[z])=if z>t.recover then upS t s.config.part w else t:=by
      unfold zhs;rw [List.getLast?_concat];dsimp only;rw [upS,setAt,hw]
     rw [hU] at hT;have hll:((L++[z]).map (fun n:Int=>[pi n])).length=L.length+1:=by simp
     have hLl:L.length<2 ^ 38:=by
      have:=hlo;rw [zy117,zy6] at this;simp only [zy5,zy13] at this;have:=h3.len;omega
     rw [show decide (((List.map (fun n:Int=>[pi n]) (L++[z])).length:Int)>0)=true from zy15 (by omega)];(conv=>whnf);refine sFm ?_;refine zaa zz0 (zw ?_);refine zal (f:=fun n:Int=>[pi n]) (a:=L) (b:=[]) (s:=z) rfl zz0 (zw ?_);refine sD ?_;by_cases e0:z>t.recover
     case neg =>
      rw [zy0 e0] at hT;rw [show decide (z>t.recover)=false from zy18 e0];(conv=>whnf)
      repeat refine sG ?_
      exact yy4
     case pos =>
      rw [zy1 e0] at hT;rw [show decide (z>t.recover)=true from zy15 e0];(conv=>whnf);have pc:=Paths.zef t.paths zz0;rw [hch] at pc
      (refine cL ?_;refine dL pc ?_)
      refine zaa zz15 (zw ?_);refine zaj hw rfl (zw ?_)
      (refine cL ?_;refine dL (Paths.zkt w s.config.part) ?_)
      refine zaa zz15 (zw ?_);refine zaj hw rfl (zw ?_);refine sD ?_;refine sR ?_
      (refine zac [] [(1000,932)] [(0,960)] ?_;(conv=>whnf);refine dG (Sco.zes t.out t.cum zz90) ?_)
      cases mv with
      | false =>
       rw [show zem false (upS t s.config.part w)=(upS t s.config.part w) from zy0 (fun h=>absurd h.1 (by decide))] at hT;subst hT;(conv=>whnf)
       (refine zac [] [(1000,5),(1001,930),(1002,931),(1003,932),(1004,933),(1005,934),(1006,935)] [(0,980),(1,981),(2,982),(3,983),(4,984),(5,985)] ?_;(conv=>whnf);refine dG (zdz (upS t s.config.part w) ((Fit.up hft))) ?_ ⟨rfl,rfl,rfl,⟨zz1,⟨zz1,⟨zz1,⟨zz1,⟨⟨rfl,_,rfl,.inl ⟨rfl,(zer rfl)⟩⟩,⟨zz1,⟨zz1,trivial⟩⟩⟩⟩⟩⟩⟩,⟨⟨rfl,rfl⟩,⟨⟨rfl,rfl⟩,⟨⟨rfl,rfl⟩,⟨⟨rfl,rfl⟩,⟨⟨rfl,rfl⟩,⟨⟨rfl,rfl⟩,trivial⟩⟩⟩⟩⟩⟩,rfl,rfl,rfl⟩)
       exact yy5
      | true =>
       (conv=>whnf);by_cases e1:(Sco.zdx t.out t.cum).1>t.cum
       case pos =>
        rw [show zem true (upS t s.config.part w)={(upS t s.config.part w) with forward:=true} from zy1 ⟨rfl,e1⟩] at hT;subst hT;rw [show decide ((Sco.zdx t.out t.cum).1>t.cum)=true from zy15 e1];(conv=>whnf)
        (refine zac [] [(1000,5),(1001,930),(1002,931),(1003,932),(1004,933),(1005,934),(1006,935)] [(0,980),(1,981),(2,982),(3,983),(4,984),(5,985)] ?_;(conv=>whnf);refine dG (zdz ({(upS t s.config.part w) with forward:=true}:zab) ((Fit.fwd (Fit.up hft)))) ?_ ⟨rfl,rfl,rfl,⟨zz1,⟨zz1,⟨zz1,⟨zz1,⟨⟨rfl,_,rfl,.inl ⟨rfl,(zer rfl)⟩⟩,⟨zz1,⟨zz1,trivial⟩⟩⟩⟩⟩⟩⟩,⟨⟨rfl,rfl⟩,⟨⟨rfl,rfl⟩,⟨⟨rfl,rfl⟩,⟨⟨rfl,rfl⟩,⟨⟨rfl,rfl⟩,⟨⟨rfl,rfl⟩,trivial⟩⟩⟩⟩⟩⟩,rfl,rfl,rfl⟩)
        exact yy5
       case neg =>
        rw [show zem true (upS t s.config.part w)=(upS t s.config.part w) from zy0 (fun h=>e1 h.2)] at hT;subst hT;rw [show decide ((Sco.zdx t.out t.cum).1>t.cum)=false from zy18 e1];(conv=>whnf)
        (refine zac [] [(1000,5),(1001,930),(1002,931),(1003,932),(1004,933),(1005,934),(1006,935)] [(0,980),(1,981),(2,982),(3,983),(4,984),(5,985)] ?_;(conv=>whnf);refine dG (zdz (upS t s.config.part w) ((Fit.up hft))) ?_ ⟨rfl,rfl,rfl,⟨zz1,⟨zz1,⟨zz1,⟨zz1,⟨⟨rfl,_,rfl,.inl ⟨rfl,(zer rfl)⟩⟩,⟨zz1,⟨zz1,trivial⟩⟩⟩⟩⟩⟩⟩,⟨⟨rfl,rfl⟩,⟨⟨rfl,rfl⟩,⟨⟨rfl,rfl⟩,⟨⟨rfl,rfl⟩,⟨⟨rfl,rfl⟩,⟨⟨rfl,rfl⟩,trivial⟩⟩⟩⟩⟩⟩,rfl,rfl,rfl⟩)
        exact yy5
theorem yvi (s:zab) (c:Chunk) (hs:Fit s) (hr:Sco.yno s.out s.cum s.paths.length) (hsp:c.zau.length<2 ^ 60) :
 zao Tryz.prog 34 [s.hv,c.hv] zae (zkg s c).hv zae:=by
 refine zci Tryz.func34 (ypl s c hs hr hsp) ?_;(conv=>whnf)
 rfl
end Snd
namespace Snd
open Ser
structure QI (c:Config) (fates:List Int) (m:zaf):Prop where
 id0:0<=m.id
 id1:m.id<fates.length
 fate:fates[m.id.toNat]?=some 1
 st0:0<=m.message.stream
 st1:m.message.stream<c.streams
 len1:1<=m.message.data.length
 len2:m.message.data.length<=60
 parts:0<=m.parts
 sent:m.sent=m.parts*c.part
 left:m.sent<m.message.data.length
structure XI (np nf:Nat) (x:zbs):Prop where
 path0:0<=x.path
 path1:x.path<np
 id0:0<=x.id
 id1:x.id<nf
 zau:x.chunk.zau=[]
 zbx:x.chunk.zbx=[]
 data:x.chunk.data.length<=16
def zox (q:List zaf):Int:=(q.map fun m=>61-m.parts).sum
structure SI (N:Nat) (s:zab):Prop where
 cfg:zoa s.config=0
 nums:∀ (i:Nat) x,s.out[i]?=some x->x.number=s.cum+1+i
 next:s.next=s.cum+1+s.out.length
 cum:s.config.first-1<=s.cum
 owes:s.next+zox s.queue<=s.config.first+61*s.fates.length
 npaths:(s.paths.length:Int)=s.config.paths
 nhad:(s.sched.had.length:Int)=s.config.streams
 nmids:(s.mids.length:Int)=2*s.config.streams
 waits:(s.queue.length:Int)<=s.config.waiting
 queue:∀ m∈s.queue,QI s.config s.fates m
 out:∀ x∈s.out,XI s.paths.length s.fates.length x
 zak:∀ (i:Nat) p,s.paths[i]?=some p->p.zak=Sco.fl i s.out
 many:s.fates.length<=N
 few:N<=2 ^ 20
theorem zcn {c:Config} (h:zoa c=0):1<=c.streams/\c.streams<=4/\1<=c.paths/\c.paths<=2/\1<=c.part/\c.part<=16/\40<=c.packet/\c.packet<=120/\1<=c.waiting/\c.waiting<=12/\0<=c.first/\c.first<65536/\1<=(c).turns/\(c).turns<=5:=by
 unfold zoa at h;split at h
 . cases h
 . split at h
   . cases h
   . omega
theorem QI.few {c:Config} {fates:List Int} {m:zaf} (h:QI c fates m) (hp:1<=c.part):m.parts<=59:=by
 have h1:=h.sent;have h2:=h.left;have h3:=h.len2;have h4:=h.parts;have h5:m.parts*1<=m.parts*c.part:=Int.mul_le_mul_of_nonneg_left hp h4;omega
theorem yau {c:Config} {fates:List Int} (hp:1<=c.part):∀ {q:List zaf},(∀ m∈q,QI c fates m)->0<=zox q
 | [],_=>by simp [zox]
 | m::q,h=>by
  have h1:=(h m zz5).few hp;have h2:=yau hp (q:=q) fun x hx=>h x zz39
  simp only [zox,zy22,zy100] at h2 ⊢;omega
theorem zlw (m:zaf) (q:List zaf):zox (m::q)=61-m.parts+zox q:=by simp [zox]
theorem zmm (a b:List zaf):zox (a++b)=zox a+zox b:=by simp [zox]
section
variable {N:Nat} {s:zab}
theorem SI.len (h:SI N s):(s.out.length:Int)<=61*N:=by
 have h1:=h.next;have h2:=h.cum;have h3:=h.owes;have h4:=yau (by have:=zcn h.cfg;omega) h.queue;have h5:=h.many;omega
theorem SI.nextle (h:SI N s):s.next<=65536+61*N:=by
 have h3:=h.owes;have h4:=yau (by have:=zcn h.cfg;omega) h.queue;have h5:=h.many;have h6:=zcn h.cfg;omega
theorem ynk:∀ {l:List zbs},(∀ x∈l,x.chunk.data.length<=16)->Sco.total l<=16*l.length
 | [],_=>by simp [Sco.total]
 | x::l,h=>by
  have h1:=h x zz5;have h2:=ynk (l:=l) fun y hy=>h y zz48
  rw [Sco.zho,zy5];omega
theorem SI.total (h:SI N s):(Sco.total s.out:Int)<=16*(61*N):=by
 have h1:=ynk fun x hx=>(h.out x hx).data
 have h2:=h.len;omega
theorem SI.fit (h:SI N s):Fit s:=by
 have h1:=h.len;have h2:=h.few;have h3:=h.total;have h4:=zcn h.cfg;have h5:=h.npaths;have h6:=h.nhad;have h7:=h.nmids;have h8:=h.waits;have h9:=h.many;exact ⟨by omega,by omega,⟨by omega,by omega⟩,by omega,by omega,by omega,fun m hm=>by have:=(h.queue m hm).len2;omega⟩
theorem SI.right (h:SI N s):Sco.yno s.out s.cum s.paths.length:=by
 have h1:=h.npaths;have h2:=zcn h.cfg;have h3:=h.nextle;have h4:=h.next;have h5:=h.cum;have h6:=h.few;exact ⟨fun x hx=>⟨(h.out x hx).path0,(h.out x hx).path1⟩,by omega,by omega,by omega,by omega,h.nums⟩
theorem SI.pf (h:SI N s):PF 62 s:=by
 have h1:=h.len;have h2:=h.few;have h3:=h.total;have h4:=zcn h.cfg;have h5:=h.npaths;have h6:=h.nhad;have h7:=h.nmids;have h8:=h.waits;have h9:=h.many;refine ⟨⟨h.fit,by omega,fun m hm=>⟨(h.queue m hm).id0,(h.queue m hm).id1⟩,fun x hx=>⟨(h.out x hx).id0,(h.out x hx).id1⟩⟩,by omega,by omega,by omega,fun m hm=>?_,fun x hx=>?_,by omega,by omega⟩
 . have q:=h.queue m hm
   have q1:=q.st0;have q2:=q.st1;have q3:=q.len2;have q4:=q.sent;have q5:=q.parts;have q6:0<=m.parts*s.config.part:=Int.mul_nonneg q5 zz0;refine ⟨⟨q1,by omega,by omega,by omega,fun _=>?_⟩,by omega,by omega,q.left,by omega⟩;unfold zig;split<;>omega
 . have q:=h.out x hx
   exact ⟨by rw [q.zau];decide,by rw [q.zbx];decide⟩
theorem SI.mono {M:Nat} (h:SI N s) (h1:N<=M) (h2:M<=2 ^ 20):SI M s:=⟨h.cfg,h.nums,h.next,h.cum,h.owes,h.npaths,h.nhad,h.nmids,h.waits,h.queue,h.out,h.zak,zy109 h.many h1,h2⟩
end
theorem xbc {c:Config} (h:zoa c=0):SI 0 (yor c):=by
 obtain ⟨h1,h2,h3,h4,h5,h6,h7,h8,h9,h10,h11,h12,h13,h14⟩:=zcn h;refine ⟨h,fun i x hx=>?_,?_,?_,?_,?_,?_,?_,?_,fun m hm=>?_,fun x hx=>?_,fun i p hp=>?_,?_,by decide⟩
 . simp [yor] at hx
 . simp [yor]
 . show c.first-1<=c.first-1;omega
 . show c.first+zox []<=c.first+61*(([]:List Int).length:Int);simp [zox]
 . show ((List.replicate c.paths.toNat (Paths.new c.part)).length:Int)=c.paths;simp;omega
 . show ((Sch.new c.streams).had.length:Int)=c.streams
   simp [Sch.new];omega
 . show ((List.replicate (2*c.streams).toNat (0:Int)).length:Int)=2*c.streams;simp;omega
 . show (([]:List zaf).length:Int)<=c.waiting;simp;omega
 . simp [yor] at hm
 . simp [yor] at hx
 . have hp:(List.replicate c.paths.toNat (Paths.new c.part))[i]?=some p:=hp
   rw [zy66] at hp;split at hp
   . cases hp;simp [Paths.new,Sco.fl,yor]
   . cases hp
 . show ([]:List Int).length<=0;simp
theorem QI.more {c:Config} {fates:List Int} {m:zaf} (h:QI c fates m) (f:Int):QI c (fates++[f]) m :=
 ⟨h.id0,by have:=h.id1;simp;omega,by have:=h.id0;have:=h.id1;rw [zy33 (by omega)];exact h.fate,h.st0,h.st1,h.len1,h.len2,h.parts,h.sent,h.left⟩
theorem XI.more {np nf nf':Nat} {x:zbs} (h:XI np nf x) (hn:nf<=nf'):XI np nf' x:=⟨h.path0,h.path1,h.id0,by have:=h.id1;omega,h.zau,h.zbx,h.data⟩
theorem ybe {N:Nat} {s:zab} {m:Message} (h:SI N s) (he:zex s m=0) (hN:N+1<=2 ^ 20):SI (N+1) (zij s m):=by
 unfold zex at he;split at he
 . cases he
 split at he
 . cases he
 split at he
 . cases he
 rename_i c1 c2 c3;refine ⟨h.cfg,h.nums,h.next,h.cum,?_,h.npaths,h.nhad,h.nmids,?_,fun q hq=>?_,fun x hx=>(h.out x hx).more (by simp [zij]),h.zak,?_,hN⟩
 . have h1:=h.owes
   show s.next+zox (s.queue++[⟨s.fates.length,-1,s.clock,0,0,m⟩])<=s.config.first+61*((s.fates++[1]).length:Int);rw [zmm,zlw];simp only [zox,zy79,zy148,zy6,zy5,zy13] at h1 ⊢;push_cast;omega
 . show ((s.queue++[_]).length:Int)<=s.config.waiting
   simp;omega
 . rcases zy14.1 hq with hq | hq
   . exact (h.queue q hq).more 1
   . rw [zy21] at hq;subst hq
     exact ⟨by simp,by simp [zij];omega,by simp [zij],by dsimp only;omega,by show m.stream<s.config.streams;omega,by dsimp only;omega,by dsimp only;omega,by simp,by simp,by dsimp only;omega⟩
 . have:=h.many
   show (s.fates++[1]).length<=N+1;simp;omega
theorem yrc (id:Int) (s:zab) (m:zaf) (hm:m.parts<=60):W (s.next+1)=s.next+1->(zfb id s m).next+zox ([m].filter fun m=>decide (m.id≠id))<=s.next+zox [m]:=by
 intro hW;unfold zfb;by_cases c:m.id=id
 . have e1:[m].filter (fun m=>decide (m.id≠id))=[]:=by simp [c]
   rw [e1];split
   . show W (s.next+1)+zox []<=_
     simp only [zox,zy79,zy148,zy22,zy100];omega
   . simp only [zox,zy79,zy148,zy22,zy100];omega
 . rw [zy0 (fun h=>c h.1)]
   simp [c,zox]
theorem yki (id:Int):∀ (q:List zaf) (s:zab),(∀ m∈q,m.parts<=60)->-1000<=s.next->s.next+q.length<2 ^ 60->s.next=s.cum+1+s.out.length->(∀ (i:Nat) x,s.out[i]?=some x->x.number=s.cum+1+i) ->
 (q.foldl (zfb id) s).next=s.cum+1+(q.foldl (zfb id) s).out.length/\(∀ (i:Nat) x,(q.foldl (zfb id) s).out[i]?=some x->x.number=s.cum+1+i)/\(q.foldl (zfb id) s).next+zox (q.filter fun m=>decide (m.id≠id))<=s.next+zox q
 | [],s,_,_,_,h1,h2=>⟨h1,h2,zy99 _⟩
 | m::q,s,hq,h0,hb,h1,h2=>by
  have hW:W (s.next+1)=s.next+1:=by simp only [zy5] at hb;exact zbi zz0 zz0
  have hk:=zxf id s m;have hcum:(zfb id s m).cum=s.cum:=by rw [hk]
  have ho:=yrc id s m (hq m zz5) hW;have h1':(zfb id s m).next=(zfb id s m).cum+1+(zfb id s m).out.length/\s.next<=(zfb id s m).next/\(zfb id s m).next<=s.next+1:=by
   unfold zfb;split
   . dsimp only;rw [hW];simp;omega
   . exact ⟨h1,by omega,by omega⟩
  have h2':∀ (i:Nat) x,(zfb id s m).out[i]?=some x->x.number=(zfb id s m).cum+1+i:=by
   rw [hcum];unfold zfb;split
   . intro i x hx
     have hx:(s.out++[zsh s.next m])[i]?=some x:=hx;rcases zy81 i s.out.length with hi | hi
     . rw [zy33 hi] at hx;exact h2 i x hx
     . rw [zy49 hi] at hx
       have:i-s.out.length=0:=by
        rcases zy115 (i-s.out.length) with h | h
        . exact h
        . rw [zy50 (by simp;omega)] at hx;cases hx
       rw [this] at hx;cases hx;show s.next=_;omega
   . exact h2
  obtain ⟨r1,r2,r3⟩:=yki id q (zfb id s m) (fun x hx=>hq x zz39) zz0 (by simp only [zy5] at hb;push_cast at hb;omega) h1'.1 h2';rw [zy37];rw [hcum] at r1 r2;refine ⟨r1,r2,?_⟩;have e1:(m::q).filter (fun m=>decide (m.id≠id))=[m].filter (fun m=>decide (m.id≠id))++q.filter fun m=>decide (m.id≠id):=by rw [<- zy52];rfl
  rw [e1,zmm,zlw];simp only [zox,zy22,zy79,zy100,zy148] at ho r3 ⊢;omega
theorem yrf {np nf:Nat} (id:Int) (hnp:0<np) (hid:0<=id/\id<nf):∀ (q:List zaf) (s:zab),(∀ x∈s.out,XI np nf x)->∀ x∈(q.foldl (zfb id) s).out,XI np nf x
 | [],s,h,x,hx=>h x hx
 | m::q,s,h,x,hx=>by
  refine yrf id hnp hid q (zfb id s m) (fun y hy=>?_) x hx;unfold zfb at hy;split at hy
  . rename_i c
    rcases zy14.1 hy with hy | hy
    . exact h y hy
    . rw [zy21] at hy;subst hy
      exact ⟨zy99 _,by show (0:Int)<np;omega,by show 0<=m.id;omega,by show m.id<nf;omega,rfl,rfl,by simp [zsh]⟩
  . exact h y hy
theorem zxi {s:zab} {i:Nat} {p:Path} (h:(zej s).paths[i]?=some p):p.zak=Sco.fl i s.out:=by
 have h:(s.paths.mapIdx fun i p=>flP s.out i p)[i]?=some p:=h;rw [zy47] at h;cases hp:s.paths[i]? with
 | none=>rw [hp] at h;cases h
 | some q=>rw [hp] at h;cases h;rfl
theorem zzy (s:zab) (id:Nat):(zfn s id).out=(s.queue.foldl (zfb id) {s with fates:=s.fates.set id 3}).out.map (Sco.zif id):=rfl
theorem ydf (s:zab) (id:Nat):(zfn s id).next=(s.queue.foldl (zfb id) {s with fates:=s.fates.set id 3}).next:=rfl
theorem zqf (s:zab) (id:Nat):(zfn s id).queue=s.queue.filter fun m=>decide (m.id≠(id:Int)):=rfl
theorem zqe (s:zab) (id:Nat):(zfn s id).fates=s.fates.set id 3:=by
 show (s.queue.foldl (zfb id) {s with fates:=s.fates.set id 3}).fates=_;rw [zpy]
theorem yhq {s:zab} {id:Nat} {i:Nat} {p:Path} (h:(zfn s id).paths[i]?=some p):p.zak=Sco.fl i (zfn s id).out:=by
 unfold zfn at h ⊢;dsimp only at h ⊢;have:=zxi h;exact this
theorem yrv {N:Nat} {s:zab} (h:SI N s) {id:Nat} (hid:id<s.fates.length):SI N (zfn s id):=by
 obtain ⟨r,-,-,-⟩:=zjo s id;have hw:=zcn h.cfg;have hl:=h.nextle;have hw2:=h.waits;have hf:=h.few;have hc:=h.cum;have hn:=h.next;obtain ⟨e1,e2,e3⟩:=yki id s.queue {s with fates:=s.fates.set id 3} (fun m hm=>by have:=(h.queue m hm).few zz0;omega) zz16 zz16 h.next h.nums;refine ⟨by rw [r.config];exact h.cfg,fun i x hx=>?_,?_,by rw [r.config,r.cum];exact h.cum,?_,by rw [r.paths,r.config];exact h.npaths,by rw [r.had,r.config];exact h.nhad,by rw [r.mids,r.config];exact h.nmids,?_,fun m hm=>?_,fun x hx=>?_,fun i p hp=>?_,by rw [r.fates];exact h.many,h.few⟩
 . rw [zzy,zy11] at hx
   cases hy:(s.queue.foldl (zfb id) {s with fates:=s.fates.set id 3}).out[i]? with
   | none=>rw [hy] at hx;cases hx
   | some y =>
    rw [hy] at hx;cases hx;rw [r.cum,show (Sco.zif id y).number=y.number by unfold Sco.zif;split<;>rfl];exact e2 i y hy
 . rw [ydf,zzy,r.cum,zy2];exact e1
 . rw [ydf,zqf,r.config,r.fates]
   have:=h.owes;dsimp only at e3;omega
 . rw [zqf,r.config]
   have:=zy65 (fun m:zaf=>decide (m.id≠(id:Int))) s.queue;omega
 . rw [zqf] at hm
   obtain ⟨hm1,hm2⟩:=zy90.1 hm;have hm2:m.id≠id:=zy41 hm2;have q:=h.queue m hm1;have q0:=q.id0;rw [r.config,zqe];exact ⟨q.id0,by rw [zy28];exact q.id1,by rw [zy44 (by omega)];exact q.fate,q.st0,q.st1,q.len1,q.len2,q.parts,q.sent,q.left⟩
 . rw [zzy] at hx
   obtain ⟨y,hy,rfl⟩:=zy26.1 hx;have hp:=h.npaths;have:=yrf (np:=s.paths.length) (nf:=s.fates.length) id zz0 ⟨by omega,by omega⟩ s.queue {s with fates:=s.fates.set id 3} h.out y hy;rw [r.paths,r.fates];unfold Sco.zif;split
   . exact ⟨this.path0,this.path1,this.id0,this.id1,this.zau,this.zbx,this.data⟩
   . exact this
 . exact yhq hp
theorem xcx {N:Nat} {s:zab} (h:SI N s) {m:zaf} (hm:0<=m.id/\m.id<s.fates.length):SI N (zlb s m)/\(zlb s m).fates.length=s.fates.length:=by
 unfold zlb;exact yy84
theorem xda {N:Nat} {s:zab} (h:SI N s) {m:zbs} (hm:0<=m.id/\m.id<s.fates.length):SI N (zie s m)/\(zie s m).fates.length=s.fates.length:=by
 unfold zie;exact yy84
theorem zzq {N:Nat}:∀ (q:List zaf) (s:zab),SI N s->(∀ m∈q,0<=m.id/\m.id<s.fates.length)->SI N (q.foldl zlb s)/\(q.foldl zlb s).fates.length=s.fates.length
 | [],s,h,_=>⟨h,rfl⟩
 | m::q,s,h,hq=>by
  obtain ⟨a,b⟩:=xcx h (hq m zz5);obtain ⟨c,d⟩:=zzq q (zlb s m) a fun x hx=>by rw [b];exact hq x zz39
  exact ⟨c,d.trans b⟩
theorem ykq {N:Nat}:∀ (q:List zbs) (s:zab),SI N s->(∀ m∈q,0<=m.id/\m.id<s.fates.length)->SI N (q.foldl zie s)/\(q.foldl zie s).fates.length=s.fates.length
 | [],s,h,_=>⟨h,rfl⟩
 | m::q,s,h,hq=>by
  obtain ⟨a,b⟩:=xda h (hq m zz5);obtain ⟨c,d⟩:=ykq q (zie s m) a fun x hx=>by rw [b];exact hq x zz39
  exact ⟨c,d.trans b⟩
theorem zug {N:Nat} {s:zab} (h:SI N s):SI N (expire s)/\(expire s).fates.length=s.fates.length:=by
 obtain ⟨a,b⟩:=zzq s.queue s h fun m hm=>⟨(h.queue m hm).id0,(h.queue m hm).id1⟩
 obtain ⟨c,d⟩:=ykq (s.queue.foldl zlb s).out _ a fun x hx=>⟨(a.out x hx).id0,(a.out x hx).id1⟩
 exact ⟨c,d.trans b⟩
end Snd
namespace Snd
open Ser
theorem zgk {α:Type} (l:List α) (k:Nat) (f:α->α):(setAt l k f).length=l.length:=by
 unfold setAt;split<;>simp
theorem zvk {α:Type} {l:List α} {k:Nat} {f:α->α} {i:Nat} {y:α} (h:(setAt l k f)[i]?=some y):(i≠k/\l[i]?=some y)\/(i=k/\∃ x,l[k]?=some x/\y=f x):=by
 unfold setAt at h;split at h
 . rename_i hn
   by_cases e:i=k
   . subst e;rw [hn] at h;cases h
   . exact .inl ⟨e,h⟩
 . rename_i x hx
   by_cases e:i=k
   . subst e
     have hk:=(zy8.1 hx).1;rw [zy25 hk] at h;cases h;exact .inr ⟨rfl,x,hx,rfl⟩
   . rw [zy44 (fun h=>e h.symm)] at h;exact .inl ⟨e,h⟩
theorem zqa (p:Int) (x:zbs) (l:List zbs):Sco.fl p (x::l)=Sco.fl p [x]+Sco.fl p l:=by
 rw [show x::l=[x]++l from rfl,Sco.yrm]
theorem xar (p:Int):∀ {l:List zbs} {i:Nat} {x:zbs},l[i]?=some x->∀ y,Sco.fl p (l.set i y)+Sco.fl p [x]=Sco.fl p l+Sco.fl p [y]
 | [],i,x,h,y=>by simp at h
 | z::l,0,x,h,y=>by
  simp only [List.getElem?_cons_zero,Option.some.injEq] at h;subst h;rw [zy126,zqa,zqa p z l];omega
 | z::l,i+1,x,h,y=>by
  simp only [zy85] at h;have:=xar p h y;rw [zy114,zqa,zqa p z l];omega
section
variable {N:Nat} {s:zab}
theorem SI.side (h:SI N s) {ps:List Path} {k:Int} {r:Int} {f:Bool} {z:Int} (hl:ps.length=s.paths.length) (hf:∀ (i:Nat) p,ps[i]?=some p->p.zak=Sco.fl i s.out) :
 SI N {s with paths:=ps,clock:=k,room:=r,forward:=f,recover:=z} :=
 ⟨h.cfg,h.nums,h.next,h.cum,h.owes,by show (ps.length:Int)=_;rw [hl];exact h.npaths,h.nhad,h.nmids,h.waits,h.queue,fun x hx=>by show XI ps.length _ x;rw [hl];exact h.out x hx,hf,h.many,h.few⟩
theorem choose_lt' (h:SI N s):choose s<s.paths.length:=(zed h.pf.some).2
theorem zqc {o:List (List Chunk)} (h:SI N s):SI N (forward ⟨s,o⟩).s:=by
 unfold forward;split
 . exact h
 . refine h.side (zgk _ _ _) fun i p hp=>?_
   rcases zvk hp with ⟨-,hp⟩ | ⟨rfl,q,hq,rfl⟩
   . exact h.zak i p hp
   . rw [<- h.zak _ q hq]
     unfold zcj;split<;>rfl
theorem yrp {p:zgl} (h:SI N p.s) {i path:Nat} {x:zbs} (hx:p.s.out[i]?=some x) (hst:x.state≠1) (hp:path<p.s.paths.length):SI N (fly p i path).s:=by
 obtain ⟨s,o⟩:=p;dsimp only at h hx hp;have hxm:=zy9 hx;have hxi:=h.out x hxm;have hil:=(zy8.1 hx).1;have hw:=zcn h.cfg;have hnp:=h.npaths;have htot:=h.total;have hfew:=h.few;have h0:∀ q:Int,Sco.fl q [x]=0:=fun q=>by rw [Sco.zxg,zy0 (fun h=>hst h.1)]
 unfold fly;simp only [hx];refine ⟨h.cfg,fun j y hy=>?_,?_,h.cum,h.owes,?_,h.nhad,h.nmids,h.waits,h.queue,fun y hy=>?_,fun j q hq=>?_,h.many,h.few⟩
 . have hy:(s.out.set i (zwh x path))[j]?=some y:=hy
   by_cases e:i=j
   . subst e
     rw [zy25 hil] at hy;cases hy;exact h.nums i x hx
   . rw [zy44 e] at hy;exact h.nums j y hy
 . show s.next=s.cum+1+((s.out.set i _).length:Int)
   rw [zy28];exact h.next
 . show ((setAt s.paths path _).length:Int)=_
   rw [zgk];exact h.npaths
 . have hy:y∈s.out.set i (zwh x path):=hy
   show XI (setAt s.paths path _).length _ y;rw [zgk];rcases zy55 hy with hy | rfl
   . exact h.out y hy
   . exact ⟨by show (0:Int)<=path;omega,by show (path:Int)<s.paths.length;omega,hxi.id0,hxi.id1,hxi.zau,hxi.zbx,hxi.data⟩
 . show q.zak=(Sco.fl j (s.out.set i (zwh x path)):Nat)
   have e1:=xar (j:Int) hx (zwh x path);rw [h0] at e1;have e2:Sco.fl (j:Int) [zwh x path]=if path=j then x.chunk.data.length else 0:=by
    rw [Sco.zxg];by_cases e:path=j
    . rw [zy1 e,zy1 ⟨rfl,by show (path:Int)=j;omega⟩];rfl
    . rw [zy0 e,zy0 (by rintro ⟨-,h⟩;have h:(path:Int)=j:=h;omega)]
   rcases zvk hq with ⟨ne,hq⟩ | ⟨rfl,w,hw2,rfl⟩
   . rw [h.zak j q hq]
     rw [zy0 (fun h=>ne h.symm)] at e2;omega
   . rw [zy1 rfl] at e2
     have e3:=h.zak j w hw2;have e4:=Sco.xdf (j:Int) s.out;have e5:=hxi.data;show W (w.zak+x.chunk.data.length)=_;rw [e3,zbi (by omega) (by omega)];omega
theorem yqr {p:zgl} (h:SI N p.s) {path:Nat} (hp:path<p.s.paths.length) (i:Nat):SI N (zdp path p i).s/\(zdp path p i).s.paths.length=p.s.paths.length:=by
 unfold zdp;split
 . exact ⟨h,rfl⟩
 . rename_i x hx
   split
   . rename_i c
     refine ⟨yrp h hx (by rw [c.1];decide) hp,?_⟩;unfold fly;simp only [hx];exact zgk _ _ _
   . exact ⟨h,rfl⟩
theorem ych {path:Nat}:∀ (L:List Nat) {p:zgl},SI N p.s->path<p.s.paths.length->SI N (L.foldl (zdp path) p).s
 | [],_,h,_=>h
 | i::L,p,h,hp=>by
  obtain ⟨a,b⟩:=yqr h hp i;exact ych L a (by rw [b];exact hp)
theorem zyz {p:zgl} (h:SI N p.s):SI N (again p).s:=ych _ h (choose_lt' h)
theorem yzc {q:List zaf} {k:Nat} {m y:zaf} (h:q[k]?=some m):zox (q.set k y)=zox q+m.parts-y.parts:=by
 obtain ⟨a,b,rfl,rfl⟩:∃ a b,q=a++m::b/\a.length=k:=⟨q.take k,q.drop (k+1),by
  have hk:=(zy8.1 h)
  obtain ⟨hk,e⟩:=hk;rw [<- e,zy113,zy23],by have:=(zy8.1 h).1;simp;omega⟩
 rw [zy160 _ _ (zy20 _),zy98,zy126,zmm,zmm,zlw,zlw];omega
theorem yox {q:List zaf} {k:Nat} {m:zaf} (h:q[k]?=some m):zox (q.eraseIdx k)=zox q+m.parts-61:=by
 obtain ⟨a,b,rfl,rfl⟩:∃ a b,q=a++m::b/\a.length=k:=⟨q.take k,q.drop (k+1),by
  have hk:=(zy8.1 h)
  obtain ⟨hk,e⟩:=hk;rw [<- e,zy113,zy23],by have:=(zy8.1 h).1;simp;omega⟩
 rw [List.eraseIdx_append_of_length_le (zy20 _),zy98,List.eraseIdx_cons_zero,zmm,zmm,zlw];omega
theorem yoq (s:zab) (m:zaf):(zdr s m).length=s.mids.length:=by
 unfold zdr;split
 . exact zgk _ _ _
 . rfl
theorem yry (sc:zja) (m:zaf) (n:Int) (o:Bool):(Sch.had sc m n o).had.length=sc.had.length:=by
 unfold Sch.had;dsimp only;split<;>simp
def zxd (s:zab) (k:Nat) (m:zaf):zab :=
 {s with mids:=zdr s m,sched:=Sch.had s.sched {m with mid:=zcd s m} (many s m) (decide (m.sent+many s m=m.message.data.length)),out:=s.out++[⟨s.next,m.id,0,0,0,0,m.came,m.message.life,m.message.tries,cut s m (many s m)⟩],next:=W (s.next+1),queue:=if decide (m.sent+many s m=m.message.data.length) then s.queue.eraseIdx k else s.queue.set k {m with mid:=zcd s m,sent:=m.sent+many s m,parts:=W (m.parts+1)}}
theorem zlv (s:zab) (o:List (List Chunk)) (k:Nat) (m:zaf):yil ⟨s,o⟩ k m (many s m)=fly ⟨zxd s k m,o⟩ s.out.length (choose s):=rfl
theorem xgh (h:SI N s) {k:Nat} {m:zaf} (hm:s.queue[k]?=some m):SI N (zxd s k m):=by
 have hw:=zcn h.cfg;have q:=h.queue m (zy9 hm);have hfew:=q.few zz0;have hN:=h.few;have hnl:=h.nextle;have hcum:=h.cum;have hnx:=h.next;have hp:=h.npaths;have q1:=q.parts;have q2:=q.sent;have q3:=q.left;have q4:=q.len2;have q5:0<=m.parts*s.config.part:=Int.mul_nonneg q1 zz0;obtain ⟨n1,n2,n3⟩:=zut (s:=s) (m:=m) zz0 zz0 zz0 q3 zz0;have n4:many s m<=s.config.part:=by unfold many;split<;>omega
 have hW:W (s.next+1)=s.next+1:=zbi zz0 zz0;have hWp:W (m.parts+1)=m.parts+1:=zbi zz0 zz0;refine ⟨h.cfg,fun j y hy=>?_,?_,h.cum,?_,h.npaths,?_,?_,?_,fun y hy=>?_,fun y hy=>?_,fun j p hp=>?_,h.many,h.few⟩
 . have hy:(s.out++[_])[j]?=some y:=hy
   rcases zy81 j s.out.length with hj | hj
   . rw [zy33 hj] at hy;exact h.nums j y hy
   . rw [zy49 hj] at hy
     have e:j-s.out.length=0:=by
      rcases zy115 (j-s.out.length) with h | h
      . exact h
      . rw [zy50 (by simp;omega)] at hy;cases hy
     rw [e] at hy;cases hy;show s.next=s.cum+1+j;omega
 . show W (s.next+1)=s.cum+1+((s.out++[_]).length:Int)
   rw [hW,zy6,zy56];push_cast;omega
 . have:=h.owes
   show W (s.next+1)+zox (if decide (m.sent+many s m=m.message.data.length) then s.queue.eraseIdx k else s.queue.set k {m with mid:=zcd s m,sent:=m.sent+many s m,parts:=W (m.parts+1)})<=s.config.first+61*(s.fates.length:Int);rw [hW];split
   . rw [yox hm];omega
   . rw [yzc hm];dsimp only;rw [hWp];omega
 . show ((Sch.had s.sched _ _ _).had.length:Int)=_
   rw [yry];exact h.nhad
 . show ((zdr s m).length:Int)=_
   rw [yoq];exact h.nmids
 . show ((if decide (m.sent+many s m=m.message.data.length) then s.queue.eraseIdx k else s.queue.set k {m with mid:=zcd s m,sent:=m.sent+many s m,parts:=W (m.parts+1)}).length:Int)<=s.config.waiting
   have:=h.waits;split
   . rw [zy106];split<;>omega
   . rw [zy28];exact this
 . have hy:y∈(if decide (m.sent+many s m=m.message.data.length) then s.queue.eraseIdx k else s.queue.set k {m with mid:=zcd s m,sent:=m.sent+many s m,parts:=W (m.parts+1)}):=hy
   show QI s.config s.fates y;split at hy
   . exact h.queue y (zy73 hy)
   . rename_i c
     have c:m.sent+many s m≠m.message.data.length:=by simpa using c
     rcases zy55 hy with hy | rfl
     . exact h.queue y hy
     . have e:many s m=s.config.part:=by
        unfold many at c ⊢;split at c
        . omega
        . rename_i c2;rw [zy0 c2]
       refine ⟨q.id0,q.id1,q.fate,q.st0,q.st1,q.len1,q.len2,?_,?_,?_⟩
       . show 0<=W (m.parts+1);omega
       . show m.sent+many s m=W (m.parts+1)*s.config.part
         rw [hWp,e,q2,Int.add_mul,Int.one_mul]
       . show m.sent+many s m<m.message.data.length;omega
 . have hy:y∈s.out++[_]:=hy
   rcases zy14.1 hy with hy | hy
   . exact h.out y hy
   . rw [zy21] at hy;subst hy
     refine ⟨zy99 _,by show (0:Int)<s.paths.length;omega,q.id0,q.id1,rfl,rfl,?_⟩;show ((m.message.data.drop m.sent.toNat).take (many s m).toNat).length<=16;rw [zy51];omega
 . show p.zak=(Sco.fl j (s.out++[_]):Nat)
   rw [Sco.yrm,h.zak j p hp,Sco.zxg,zy0 (by rintro ⟨h,-⟩;cases h)];rfl
theorem yin {p q:zgl} (h:SI N p.s) (hq:next p=some q):SI N q.s:=by
 obtain ⟨s,o⟩:=p;unfold next at hq;dsimp only at hq h;split at hq
 . cases hq
 rename_i c;cases hm:s.queue[(zdl s).toNat]? with
 | none=>rw [hm] at hq;cases hq
 | some m =>
  rw [hm] at hq;dsimp only at hq;split at hq
  . cases hq
  . cases hq
    rw [zlv];have h2:=xgh h hm;exact yrp (p:=⟨zxd s (zdl s).toNat m,o⟩) h2 (x:=⟨s.next,m.id,0,0,0,0,m.came,m.message.life,m.message.tries,cut s m (many s m)⟩) (by show (s.out++[_])[s.out.length]?=_;simp) (by intro h;cases h) (choose_lt' h)
theorem yme:∀ (n:Nat) {p:zgl},SI N p.s->SI N (zgn n p).s
 | 0,_,h=>h
 | n+1,p,h=>by
  unfold zgn;split
  . exact h
  . rename_i q hq;exact yme n (yin h hq)
theorem xag (h:SI N s):SI N (ygs s):=by
 refine h.side zz5 fun i p hp=>?_
 rw [zy11] at hp;cases hq:s.paths[i]? with
 | none=>rw [hq] at hp;cases hp
 | some q =>
  rw [hq] at hp;cases hp;rw [<- h.zak i q hq];unfold zfy;split
  . rfl
  . split<;>rfl
theorem yul (h:SI N s):SI N (zfj s).1:=xag (yme 61 (zyz (zqc (zug h).1)))
theorem znk {n:Int}:∀ {l:List zbs} {cum:Int},(∀ (i:Nat) x,l[i]?=some x->x.number=cum+1+i)->cum<=n->l.filter (fun x=>decide (x.number>n))=l.drop (n-cum).toNat
 | [],_,_,_=>by simp
 | x::l,cum,h,hn=>by
  have h0:=h 0 x rfl;have h1:∀ (i:Nat) y,l[i]?=some y->y.number=cum+1+1+i:=fun i y hy=>by
   have:=h (i+1) y (by rw [zy85];exact hy);push_cast at this;omega
  by_cases c:cum=n
  . subst c
    have:∀ y∈x::l,y.number>cum:=fun y hy=>by
     obtain ⟨i,hi⟩:=zy60 hy;have:=h i y hi;omega
    rw [zy83.2 fun y hy=>zy15 (this y hy)];simp
  . rw [zy57,zy0 (by simp at h0 ⊢;omega),znk h1 (by omega)]
    have:(n-cum).toNat=(n-(cum+1)).toNat+1:=by omega
    rw [this,zy139]
theorem xex {l:List zbs} {cum:Int} {c:Chunk} {np:Int} (h:∀ (i:Nat) x,l[i]?=some x->x.number=cum+1+i) (hk:¬ (zdh cum c.tag<cum\/zdh cum c.tag>cum+l.length)) :
 ∃ g:zbs->zbs,(∀ x,(g x).number=x.number/\(g x).path=x.path/\(g x).id=x.id/\(g x).chunk=x.chunk)/\(Sco.zfl l cum c np).1=(l.drop (zdh cum c.tag-cum).toNat).map g:=by
 refine ⟨fun x=>Sco.age (Sco.zky c (zdh cum c.tag) l) (Sco.zbq c (zdh cum c.tag) x),fun x=>?_,?_⟩
 . have e1:∀ (k:Int) y,(Sco.age k y).number=y.number/\(Sco.age k y).path=y.path/\(Sco.age k y).id=y.id/\(Sco.age k y).chunk=y.chunk:=fun k y=>by unfold Sco.age;(repeat' split)<;>exact ⟨rfl,rfl,rfl,rfl⟩
   have e2:∀ k y,(Sco.zbq c k y).number=y.number/\(Sco.zbq c k y).path=y.path/\(Sco.zbq c k y).id=y.id/\(Sco.zbq c k y).chunk=y.chunk:=fun k y=>by unfold Sco.zbq;split<;>exact ⟨rfl,rfl,rfl,rfl⟩
   obtain ⟨a1,a2,a3,a4⟩:=e1 (Sco.zky c (zdh cum c.tag) l) (Sco.zbq c (zdh cum c.tag) x);obtain ⟨b1,b2,b3,b4⟩:=e2 (zdh cum c.tag) x;exact ⟨a1.trans b1,a2.trans b2,a3.trans b3,a4.trans b4⟩
 . rw [Sco.zfl,zy0 hk]
   dsimp only;rw [Sco.left,znk h (by omega),zy95];rfl
theorem ydo (h:SI N s) {c:Chunk} (hk:¬ (zdh s.cum c.tag<s.cum\/zdh s.cum c.tag>s.cum+s.out.length)):SI N (zgs s c (Sco.zfl s.out s.cum c s.paths.length)):=by
 obtain ⟨g,hg,e⟩:=xex (np:=s.paths.length) h.nums hk;have e2:(Sco.zfl s.out s.cum c s.paths.length).2.1=zdh s.cum c.tag:=by rw [Sco.zfl,zy0 hk]
 have hl:(zgs s c (Sco.zfl s.out s.cum c s.paths.length)).paths.length=s.paths.length:=by
  show (List.mapIdx _ (List.mapIdx _ _)).length=_;simp
 have ho:(zgs s c (Sco.zfl s.out s.cum c s.paths.length)).out=(s.out.drop (zdh s.cum c.tag-s.cum).toNat).map g:=e;have hc:(zgs s c (Sco.zfl s.out s.cum c s.paths.length)).cum=zdh s.cum c.tag:=e2;have hn:=h.next;have hcu:=h.cum;refine ⟨h.cfg,fun i x hx=>?_,?_,?_,h.owes,by rw [hl];exact h.npaths,h.nhad,h.nmids,h.waits,h.queue,fun x hx=>?_,fun i p hp=>?_,h.many,h.few⟩
 case refine_5=>have:=zxi (s:={s with out:=(Sco.zfl s.out s.cum c s.paths.length).1,cum:=(Sco.zfl s.out s.cum c s.paths.length).2.1,room:=c.room,paths:=zgv s.paths s.config.part (decide ((Sco.zfl s.out s.cum c s.paths.length).2.1>s.cum)) (Sco.zfl s.out s.cum c s.paths.length).2.2.1}) hp;exact this
 . rw [ho,zy11,zy43] at hx
   cases hy:s.out[(zdh s.cum c.tag-s.cum).toNat+i]? with
   | none=>rw [hy] at hx;cases hx
   | some y =>
    rw [hy] at hx;cases hx;rw [(hg y).1,h.nums _ y hy,hc];push_cast;omega
 . rw [ho,hc,zy2,zy32]
   show s.next=_;omega
 . rw [hc];show s.config.first-1<=_;omega
 . rw [ho] at hx
   obtain ⟨y,hy,rfl⟩:=zy26.1 hx;have q:=h.out y (zy80 hy);obtain ⟨g1,g2,g3,g4⟩:=hg y;rw [hl];exact yy70
theorem yse (h:SI N s) {part:Int} {L:List Int}:SI N (zhs part s L):=by
 unfold zhs;split
 . exact h
 . split
   . refine h.side (zgk _ _ _) fun i p hp=>?_
     rcases zvk hp with ⟨-,hp⟩ | ⟨rfl,q,hq,rfl⟩
     . exact h.zak i p hp
     . rw [<- h.zak _ q hq];rfl
   . exact h
theorem ysf (h:SI N s) {b:Bool}:SI N (zem b s):=by
 unfold zem;split
 . exact h.side rfl h.zak
 . exact h
theorem yuy (h:SI N s):SI N (settle s):=by
 have hl:(settle s).fates.length=s.fates.length:=by show (List.mapIdx _ _).length=_;simp
 refine ⟨h.cfg,h.nums,h.next,h.cum,by rw [hl];exact h.owes,h.npaths,h.nhad,h.nmids,h.waits,fun m hm=>?_,fun x hx=>by rw [hl];exact h.out x hx,h.zak,by rw [hl];exact h.many,h.few⟩;have hm:m∈s.queue:=hm;have q:=h.queue m hm;have q0:=q.id0;refine ⟨q.id0,by rw [hl];exact q.id1,?_,q.st0,q.st1,q.len1,q.len2,q.parts,q.sent,q.left⟩;show (s.fates.mapIdx fun id f=>settled s id f)[m.id.toNat]?=some 1;rw [zy47,q.fate];show some (settled s m.id.toNat 1)=some 1;rw [settled,zy0];rintro ⟨-,h2,-⟩;rw [zy120] at h2;exact h2 m hm (zy15 zz0)
theorem ysd (h:SI N s) (c:Chunk):SI N (zkg s c):=by
 unfold zkg;split
 . exact h
 split
 . exact h
 . rename_i c1 c2
   rw [zkh];exact yuy (ysf (yse (ydo h c2)))
theorem yrn (i j:Nat):∀ l:List zbs,Sco.fl j (l.map (Sco.late i))=if i=j then 0 else Sco.fl j l
 | []=>by simp [Sco.fl]
 | x::l=>by
  rw [zy22,zqa,yrn i j l,zqa (j:Int) x l,Sco.zxg,Sco.zxg];unfold Sco.late;by_cases c:x.state=1/\x.path=i
  . rw [zy1 c,zy0 (by rintro ⟨h,-⟩;cases h)]
    by_cases e:i=j
    . rw [zy1 e,zy1 e]
    . rw [zy0 e,zy0 e,zy0 (by rintro ⟨-,h⟩;have:=c.2;omega)]
  . rw [zy0 c]
    by_cases e:i=j
    . subst e;rw [zy1 rfl,zy1 rfl,zy0 c]
    . rw [zy0 e,zy0 e]
theorem ylx (h:SI N s) (part:Int) (i:Nat):SI N (zel part s i):=by
 unfold zel;split
 . exact h
 rename_i p hp;split
 . exact h
 have hil:=(zy8.1 hp).1;have h2:SI N {s with out:=s.out.map (Sco.late i),paths:=s.paths.set i (Paths.late p part)}:=by
  have e:∀ x,(Sco.late i x).number=x.number/\(Sco.late i x).path=x.path/\(Sco.late i x).id=x.id/\(Sco.late i x).chunk=x.chunk:=fun x=>by unfold Sco.late;split<;>exact ⟨rfl,rfl,rfl,rfl⟩
  refine ⟨h.cfg,fun j y hy=>?_,?_,h.cum,h.owes,?_,h.nhad,h.nmids,h.waits,h.queue,fun y hy=>?_,fun j q hq=>?_,h.many,h.few⟩
  . have hy:(s.out.map (Sco.late i))[j]?=some y:=hy
    rw [zy11] at hy;cases hz:s.out[j]? with
    | none=>rw [hz] at hy;cases hy
    | some z=>rw [hz] at hy;cases hy;rw [(e z).1];exact h.nums j z hz
  . show s.next=s.cum+1+((s.out.map (Sco.late i)).length:Int)
    rw [zy2];exact h.next
  . show ((s.paths.set i _).length:Int)=_
    rw [zy28];exact h.npaths
  . have hy:y∈s.out.map (Sco.late i):=hy
    obtain ⟨z,hz,rfl⟩:=zy26.1 hy;have q:=h.out z hz;obtain ⟨g1,g2,g3,g4⟩:=e z;show XI (s.paths.set i _).length _ _;rw [zy28];exact yy70
  . have hq:(s.paths.set i (Paths.late p part))[j]?=some q:=hq
    show q.zak=(Sco.fl j (s.out.map (Sco.late i)):Nat);rw [yrn];by_cases e:i=j
    . subst e
      rw [zy25 hil] at hq;cases hq;rw [zy1 rfl];rfl
    . rw [zy44 e] at hq
      rw [zy0 e];exact h.zak j q hq
 dsimp only;split
 . exact h2.side rfl h2.zak
 . exact h2
theorem yly (part:Int):∀ (L:List Nat) {s:zab},SI N s->SI N (L.foldl (zel part) s)
 | [],_,h=>h
 | i::L,_,h=>yly part L (ylx h part i)
theorem ybt (h:SI N s):SI N (tick s):=yly _ _ (h.side rfl h.zak)
end
end Snd
namespace Sch
end Sch
namespace Sco
open Ser
end Sco
namespace Sco
open Ser
end Sco
namespace Sco
open Ser
end Sco
namespace Snd
open Ser
end Snd
namespace Snd
open Ser
end Snd
namespace Snd
open Ser
end Snd
namespace Snd
open Ser
end Snd
namespace Snd
open Ser
end Snd
namespace Snd
open Ser
end Snd
namespace Snd
open Ser
section
variable {L:List Message} {s:zab}
end
theorem ykg (s:zab) (id:Nat):(zfn s id).config=s.config:=(zjo s id).1.config
theorem ycw:∀ (q:List zaf) (s:zab),(∀ m∈q,0<=m.id)->(q.foldl zlb s).config=s.config
 | [],_,_=>rfl
 | m::q,s,h=>by
  rw [zy37,ycw q _ fun x hx=>h x (by simp [hx])];unfold zlb;split
  . have:=h m zz5
    rw [show m.id=((m.id.toNat:Nat):Int) by omega];exact ykg s _
  . rfl
theorem ycx:∀ (q:List zbs) (s:zab),(∀ m∈q,0<=m.id)->(q.foldl zie s).config=s.config
 | [],_,_=>rfl
 | m::q,s,h=>by
  rw [zy37,ycx q _ fun x hx=>h x (by simp [hx])];unfold zie;split
  . have:=h m zz5
    rw [show m.id=((m.id.toNat:Nat):Int) by omega];exact ykg s _
  . rfl
theorem yny {N:Nat} {s:zab} (h:SI N s):(expire s).config=s.config:=by
 obtain ⟨h2,-⟩:=zzq s.queue s h fun m hm=>⟨(h.queue m hm).id0,(h.queue m hm).id1⟩
 unfold expire;rw [ycx _ _ fun x hx=>(h2.out x hx).id0,ycw _ _ fun m hm=>(h.queue m hm).id0]
theorem yro (p:zgl) (i c:Nat):(fly p i c).s.config=p.s.config:=by unfold fly;split<;>rfl
theorem zwu {c:Nat}:∀ (l:List Nat) (p:zgl),(l.foldl (zdp c) p).s.config=p.s.config
 | [],_=>rfl
 | i::l,p=>by
  rw [zy37,zwu l];unfold zdp;split
  . rfl
  . split
    . exact yro _ _ _
    . rfl
theorem yyl {p q:zgl} (h:next p=some q):q.s.config=p.s.config:=by
 obtain ⟨s,o⟩:=p;unfold next at h;dsimp only at h;split at h
 . cases h
 cases hm:s.queue[(zdl s).toNat]? with
 | none=>rw [hm] at h;cases h
 | some m =>
  rw [hm] at h;dsimp only at h;split at h
  . cases h
  . cases h
    rw [zlv,yro];rfl
theorem yen:∀ (n:Nat) (p:zgl),(zgn n p).s.config=p.s.config
 | 0,_=>rfl
 | n+1,p=>by
  unfold zgn;split
  . rfl
  . rename_i q hq;rw [yen n q,yyl hq]
theorem yhk (p:zgl):(forward p).s.config=p.s.config:=by unfold forward;split<;>rfl
theorem yzk {N:Nat} {s:zab} (h:SI N s):(zfj s).1.config=s.config:=by
 show (zhz s).s.config=_;unfold zhz;rw [yen];unfold again;rw [zwu,yhk];exact yny h
theorem yxn (s:zab) (c:Chunk):(zkg s c).config=s.config:=by
 unfold zkg;split
 . rfl
 split
 . rfl
 rw [zkh];show (zem _ _).config=_;have h2:∀ b u,(zem b u).config=u.config:=fun b u=>by unfold zem;split<;>rfl
 have h3:∀ p t L,(zhs p t L).config=t.config:=fun p t L=>by
  unfold zhs;split
  . rfl
  . split<;>rfl
 rw [h2,h3];rfl
end Snd
namespace Jn
open Srt
def zlr (n:Nat):Nat->List zay->Option (List UInt8)
 | _,[]=>some []
 | i,p::r=>if p.chunk.part=(i:Int)/\p.chunk.last=decide (i+1=n) then (zlr n (i+1) r).map (p.chunk.data++·) else none
def join (l:List zay):Option (List UInt8):=if l=[] then none else zlr l.length 0 (srt ck l)
def xak (i:Nat):List zay->Prop
 | []=>True
 | p::r=>p.chunk.part=(i:Int)/\xak (i+1) r
theorem zml {n:Nat}:∀ {S:List zay} {i:Nat} {b:List UInt8},zlr n i S=some b->xak i S
 | [],_,_,_=>trivial
 | p::r,i,b,h=>by
  rw [zlr] at h;split at h
  . rename_i c
    obtain ⟨d,hd,-⟩:=zy27.1 h;exact ⟨c.1,zml hd⟩
  . cases h
def tot (l:List zay):Nat:=(l.map fun p=>p.chunk.data.length).sum
theorem ynj {l l':List zay} (h:l.Perm l'):tot l=tot l':=(h.map _).sum_nat
theorem zet (p:zay) (l:List zay):tot (p::l)=p.chunk.data.length+tot l:=rfl
theorem zvz (a b:List zay):tot (a++b)=tot a+tot b:=by simp [tot]
theorem xfk {l:List zay} {p:zay} (h:p∈l):p.chunk.data.length<=tot l:=by
 induction l with
 | nil=>cases h
 | cons q l ih =>
  rw [zet];rcases zy16.1 h with rfl | h
  . omega
  . have:=ih h;omega
def cat (l:List zay):List UInt8:=(l.map fun p=>p.chunk.data).flatten
theorem yjv (l:List zay) (p:zay):cat (l++[p])=cat l++p.chunk.data:=by simp [cat]
theorem xck (l:List zay):(cat l).length=tot l:=by induction l with
 | nil=>rfl
 | cons p l ih=>rw [zet,<- ih];simp [cat]
abbrev pieces (l:List zay):HV:=.p (.sl 12 (l.map zay.row))
theorem zyo (n:Int):zao Tryz.prog 214 [i64 n] zae (zbl false) zae:=by
 refine zap mixed Tryz.func214 zz4 ?_;(conv=>whnf);simp
theorem yfx (a b:Int):zao Tryz.prog 209 [i64 a,i64 b] zae (i64 (if a<b then -1 else if a>b then 1 else 0)) zae:=by
 refine zap mixed Tryz.func209 zz4 ?_;(conv=>whnf)
 (refine cL ?_;refine dL (zyo a) ?_)
 (refine cL ?_;refine dL (zyo b) ?_)
 by_cases c:a<b
 . rw [zy1 c]
   ((refine xgr ?_;conv=>whnf);try refine sG ?_)
 rw [zy0 c];refine sN ?_;by_cases c2:a>b
 . rw [zy1 c2]
   ((refine xgr ?_;conv=>whnf);try refine sG ?_)
 rw [zy0 c2]
 ((refine xis ?_;conv=>whnf);try refine sG ?_)
theorem ybj:ycc 208:=fun a b=>by
 refine zap mixed Tryz.func208 zz4 ?_;(conv=>whnf)
 (refine cL ?_;refine dL (yfx a.chunk.part b.chunk.part) ?_)
 rfl
theorem ywb {x:HV} {a b:Bool} (h:a=b):HV.tup [x,zbl a]=HV.tup [x,zbl b]:=by rw [h]
theorem ycm (l:List zay) (hb:l.length<2 ^ 39):zao Tryz.prog 206 [.p (.sl 12 (l.map zay.row))] zae (.own 0) (lk .free [(0,.live (.row 162 12 (l.map zay.row)))]):=by
 refine zan mixed Tryz.func206 zz4 [] (fun _=>.inl rfl) ?_;(conv=>whnf);intro b hn;(conv=>whnf);refine zah (fun c=>?_) (fun c=>?_)
 . conv=>whnf
   exact yy15
 . conv=>whnf
   refine zaa (c:=(([]:List (List PV)).length+(l.map zay.row).length)*136<=140737488355328) zz3 ?_;exact yy10
theorem yvj (l:List zay) (hb:l.length<2 ^ 38) (ht:tot l<2 ^ 40) :
 zao Tryz.prog 200 [pieces l] zae (.tup [.own 0,zbl (join l).isSome]) (lk .free [(0,.live (.row 5 1 (((join l).getD []).map zdv)))]):=by
 refine zan mixed Tryz.func200 zz4 [] (fun _=>.inl rfl) ?_;(conv=>whnf)
 (refine zas [(0,9)] ?_;(conv=>whnf);refine dO (ycm l zz0) ?_)
 (refine zac [] [(1000,9)] [] ?_;(conv=>whnf);refine dG (yvt ybj l zz0) ?_)
 have hl:=zkb (key:=ck) l;have ht2:tot (srt ck l)<2 ^ 40:=by rw [ynj zpm];exact ht
 obtain ⟨S,hS⟩:∃ S,S=srt ck l:=⟨_,rfl⟩
 have hj:join l=if l=[] then none else zlr S.length 0 S:=by rw [join,<- hS,<- hl,hS]
 rw [<- hS] at hl ht2;refine ⟨{x:List zay×List zay // S=x.1++x.2/\zlr S.length 0 S=(zlr S.length x.1.length x.2).map (cat x.1++·)},fun | ⟨(A,B),_⟩=>hs 45 [(4,.own 900),(5,.own 901),(12,.own 900),(13,i64 S.length),(14,i64 A.length)] [(900,.live (.row 162 12 (S.map zay.row))),(901,.live (.row 5 1 ((cat A).map zdv)))],fun x=>x.1.2.length,⟨([],S),rfl,by simp [cat]⟩,?_,?_⟩
 . exact (zcu [(900,some 9),(901,none)] (by repeat' (first | exact z0 | refine z1 ?_ | refine ⟨?_,?_⟩ | ((exact zbk (by rw [zy2,hS]))) | ((exact zaq (by rw [hS]))) | exact z2)))
 rintro ⟨⟨A,B⟩,h,hr⟩;dsimp only at h hr;have hAB:S.length=A.length+B.length:=by rw [h];simp
 have htA:tot S=tot A+tot B:=by rw [h,zvz]
 (conv=>whnf);cases B with
 | nil =>
  rw [zy13] at hAB;rw [zlr] at hr;have hcat:zlr S.length 0 S=some (cat A):=by rw [hr];simp
  have h0:tot []=0:=rfl;refine sN ?_;by_cases hln:l=[]
  . subst hln
    have hl0:S.length=0:=hl;have:A=[]:=zy19 zz0;subst this;refine zam [(0,some 901)] rfl rfl trivial rfl (ywb ?_) ⟨⟨rfl,.inl ⟨901,rfl,rfl⟩⟩,trivial⟩;rw [zy2,hl0];rfl
  . have:=zy30.2 hln
    have hjv:join l=some (cat A):=by rw [hj,zy0 hln,hcat]
    rw [hjv];refine zam [(0,some 901)] rfl rfl trivial rfl (ywb ?_) ⟨⟨rfl,.inl ⟨901,rfl,rfl⟩⟩,trivial⟩;simp;omega
 | cons p B =>
  rw [zy5] at hAB;rw [zet] at htA;rw [zlr] at hr;have hca:=xck A;have hln:l≠[]:=fun h=>by subst h;have hl0:S.length=0:=hl;omega
  rw [zy0 hln] at hj;refine sT ?_;refine sO ?_;refine zal h zz5 (zw ?_);have e:((A.length:Int)==((S.map zay.row).length:Int)-1)=decide (A.length+1=S.length):=by
   rw [zy2,zy142];simp;omega
  by_cases c1:p.chunk.part=(A.length:Int)
  . refine zag (by simp [c1]) (zw ?_)
    refine sF ?_;by_cases c2:p.chunk.last=decide (A.length+1=S.length)
    . rw [zy1 ⟨c1,c2⟩] at hr
      refine zag (by rw [e,c2];simp) (zw ?_)
      try refine sG ?_
      refine zaa (c:=(((cat A).map zdv).length+(p.chunk.data.map zdv).length)*1<=140737488355328) zz3 (zw ?_)
      try refine sG ?_
      refine sF ?_;refine ⟨⟨(A++[p],B),by rw [h];simp,by dsimp only;rw [hr,Option.map_map,zy6,zy56];congr 1;funext x;simp [yjv]⟩,(zcu [(900,some 900),(901,some 39)] (by repeat' (first | exact z0 | refine z1 ?_ | refine ⟨?_,?_⟩ | ((exact zaq (by rw [yjv];simp))) | exact z2))),by simp⟩
    . rw [zy0 fun h=>c2 h.2] at hr
      have hjv:join l=none:=by rw [hj,hr];rfl
      refine zai (by rw [e];cases hp:p.chunk.last<;>cases hd:decide (A.length+1=S.length)<;>simp_all) (zw ?_);exact yy97
  . rw [zy0 fun h=>c1 h.1] at hr
    have hjv:join l=none:=by rw [hj,hr];rfl
    refine zai zz52 ?_;conv=>whnf
    exact yy97
end Jn
end Go.HL
namespace Go.HL
namespace Ser
def zlc:List Span->Prop
 | []=>True
 | s::r=>s.lo<=s.hi/\-9223372036854775808<=s.lo/\s.hi<=9223372036854775807/\(∀ t∈r,s.hi+1<t.lo)/\zlc r
theorem zkm:∀ {a b:List Span},zlc (a++b)↔zlc a/\zlc b/\∀ s∈a,∀ t∈b,s.hi+1<t.lo
 | [],b=>by simp [zlc]
 | s::a,b=>by
  simp only [zy36,zlc,zkm (a:=a) (b:=b),zy14,zy16]
  constructor
  . rintro ⟨h1,h2,h3,h4,h5,h6,h7⟩
    exact ⟨⟨h1,h2,h3,fun t ht=>h4 t (.inl ht),h5⟩,h6,fun x hx t ht=>by rcases hx with rfl | hx;exact h4 t (.inr ht);exact h7 x hx t ht⟩
  . rintro ⟨⟨h1,h2,h3,h4,h5⟩,h6,h7⟩
    exact ⟨h1,h2,h3,fun t ht=>by rcases ht with ht | ht;exact h4 t ht;exact h7 s (.inl rfl) t ht,h5,h6,fun x hx t ht=>h7 x (.inr hx) t ht⟩
theorem zix:∀ {l:List Span},zlc l->∀ s∈l,s.lo<=s.hi/\-9223372036854775808<=s.lo/\s.hi<=9223372036854775807
 | s::r,h,t,ht=>by
  rcases zy16.1 ht with rfl | ht
  . exact ⟨h.1,h.2.1,h.2.2.1⟩
  . exact zix h.2.2.2.2 t ht
theorem yhs {l:List Span} {n:Int}:has l n=true↔∃ s∈l,s.lo<=n/\n<=s.hi:=by
 simp [has,zy104]
theorem yrz {l:List Span} {n:Int}:has l n=false↔∀ s∈l,¬ (s.lo<=n/\n<=s.hi):=by
 rw [<- zy154,yhs];simp
theorem yaa (a b:List Span) (n:Int):has (a++b) n=(has a n||has b n):=by simp [has]
theorem zsv (s:Span) (b:List Span) (n:Int):has (s::b) n=((decide (s.lo<=n)&&decide (n<=s.hi))||has b n):=by simp [has]
def yop (n:Int) (s:Span):Bool:=decide (s.hi<n)
def below (l:List Span) (n:Int):List Span:=l.takeWhile (yop n)
def zfk (l:List Span) (n:Int):List Span:=l.dropWhile (yop n)
def zxc (n:Int) (a:List Span):List Span×Int:=match a.getLast? with
 | some s=>if s.hi=n-1 then (a.dropLast,s.lo) else (a,n)
 | none=>(a,n)
def zss (n:Int):List Span->Int×List Span
 | t::r=>if t.lo=n+1 then (t.hi,r) else (n,t::r)
 | []=>(n,[])
def add (l:List Span) (n:Int):List Span :=
 if has l n then l else (zxc n (below l n)).1++⟨(zxc n (below l n)).2,(zss n (zfk l n)).1⟩::(zss n (zfk l n)).2
theorem split (l:List Span) (n:Int):l=below l n++zfk l n:=(List.takeWhile_append_dropWhile).symm
theorem zsr {l:List Span} {n:Int}:∀ s∈below l n,s.hi<n:=fun s hs=>by
 have:=zy63.1 (List.all_takeWhile (p:=yop n) (l:=l)) s hs
 simpa [yop] using this
theorem yjm {l:List Span} {n:Int} (h:zlc l) (hn:has l n=false):∀ s∈zfk l n,n<s.lo:=by
 intro s hs;have hsp:=split l n;have hr:zlc (zfk l n):=by rw [hsp] at h;exact (zkm.1 h).2.1
 have hno:∀ t∈zfk l n,¬ (t.lo<=n/\n<=t.hi):=fun t ht=>yrz.1 hn t (by rw [hsp];exact zy159 _ ht)
 have hhd:∀ t r,zfk l n=t::r->¬ t.hi<n:=by
  intro t r e hlt;have:=zy144 (yop n) l;rw [show l.dropWhile (yop n)=t::r from e] at this;simp [yop] at this;omega
 cases ha:zfk l n with
 | nil=>rw [ha] at hs;simp at hs
 | cons t r =>
  have h1:=hhd t r ha;have h2:=hno t (by rw [ha];simp);rw [ha] at hr hs;have h3:=hr.1;rcases zy16.1 hs with rfl | hs
  . omega
  . have:=hr.2.2.2.1 s hs;omega
theorem yqu {l:List Span} {n:Int} (h:zlc l):∀ (i:Nat) (hi:i<l.length),l[i].hi<n↔i<(below l n).length:=by
 intro i hi;have hsp:=split l n
 constructor
 . intro hlt
   apply Classical.byContradiction;intro hge;have hmem:l[i]∈zfk l n:=by
    have e:l[i]?=(zfk l n)[i-(below l n).length]?:=by
     conv=>lhs;rw [hsp]
     exact zy49 zz0
    rw [zy3 hi] at e;exact zy9 e.symm
   have hr:zlc (zfk l n):=by rw [hsp] at h;exact (zkm.1 h).2.1
   cases ha:zfk l n with
   | nil=>rw [ha] at hmem;simp at hmem
   | cons t r =>
    have h1:¬ t.hi<n:=by
     exact yy101
    rw [ha] at hr hmem;rcases zy16.1 hmem with e | hm
    . rw [e] at hlt;exact h1 hlt
    . have h4:=hr.2.2.2.1 _ hm
      have h5:=(zix hr.2.2.2.2 _ hm).1;have:=hr.1;omega
 . intro hlt
   have e:l[i]?=(below l n)[i]?:=by
    conv=>lhs;rw [hsp]
    exact zy33 hlt
   rw [zy3 hi] at e;exact zsr _ (zy9 e.symm)
theorem yqy {a:List Span} {n:Int} (h:zlc a) (hn:∀ s∈a,s.hi<n) :
 (zxc n a).2<=n/\(∀ s∈(zxc n a).1,s.hi+1<(zxc n a).2)/\zlc (zxc n a).1/\(-9223372036854775808<=n->-9223372036854775808<=(zxc n a).2)/\∀ m,(has (zxc n a).1 m||(decide ((zxc n a).2<=m)&&decide (m<n)))=has a m:=by
 rcases zy134 a with rfl | ⟨a',s,rfl⟩
 . simp [zxc,zlc,has]
   intro m hm;exact zy41 hm
 . rw [zy117] at h hn ⊢
   have hs:=hn s zz5;have hr:=zkm.1 h;have h3:∀ x∈a',x.hi+1<s.lo:=fun x hx=>hr.2.2 x hx s zz5
   have h4:=hr.2.1.1;simp only [zxc,List.getLast?_concat];split
   . rename_i he
     simp only [List.dropLast_concat];refine ⟨by omega,h3,hr.1,fun _=>hr.2.1.2.1,fun m=>?_⟩;rw [yaa,zsv];have:decide (m<n)=decide (m<=s.hi):=by rw [zy158];omega
     rw [this];simp [has]
   . rename_i he
     refine ⟨zy99 _,fun x hx=>?_,h,fun h=>h,fun m=>?_⟩
     . rcases zy14.1 hx with hx | hx
       . have:=h3 x hx;dsimp only;omega
       . rw [zy21.1 hx];dsimp only;omega
     . have:(decide (n<=m)&&decide (m<n))=false:=by simp<;>omega
       dsimp only;rw [this,Bool.or_false]
theorem yqz {b:List Span} {n:Int} (h:zlc b) (hn:∀ s∈b,n<s.lo) :
 n<=(zss n b).1/\(∀ s∈(zss n b).2,(zss n b).1+1<s.lo)/\zlc (zss n b).2/\(n<=9223372036854775807->(zss n b).1<=9223372036854775807)/\∀ m,(has (zss n b).2 m||(decide (n<m)&&decide (m<=(zss n b).1)))=has b m:=by
 cases b with
 | nil =>
  simp [zss,zlc,has];intro m hm;exact zy18 zz0
 | cons t r =>
  have ht:=hn t zz5;simp only [zss];split
  . rename_i he
    refine ⟨by have:=h.1;dsimp only;omega,h.2.2.2.1,h.2.2.2.2,fun _=>h.2.2.1,fun m=>?_⟩;rw [zsv,Bool.or_comm];congr 2;rw [zy158];omega
  . rename_i he
    refine ⟨zy99 _,fun x hx=>?_,h,fun h=>h,fun m=>?_⟩
    . rcases zy16.1 hx with rfl | hx
      . dsimp only;omega
      . have:=h.2.2.2.1 x hx;have:=h.1;dsimp only;omega
    . have:(decide (n<m)&&decide (m<=n))=false:=by simp
      dsimp only;rw [this,Bool.or_false]
theorem yjo {l:List Span} {n:Int} (h:zlc l) (h1:-9223372036854775808<=n) (h2:n<=9223372036854775807):zlc (add l n)/\∀ m,has (add l n) m=(has l m||decide (m=n)):=by
 unfold add;cases hn:has l n with
 | true =>
  refine ⟨h,fun m=>?_⟩;by_cases hm:m=n
  . subst hm;simp [hn]
  . simp [hm]
 | false =>
  simp only [zy78,if_false];have hsp:=split l n;have hab:=h;rw [hsp] at hab;obtain ⟨ra,rb,rab⟩:=zkm.1 hab;obtain ⟨a1,a2,a3,a4,a5⟩:=yqy ra zsr;obtain ⟨b1,b2,b3,b4,b5⟩:=yqz rb (yjm h hn);have a4:=a4 h1;have b4:=b4 h2;have b6:∀ s∈(zss n (zfk l n)).2,n<s.lo:=fun s hs=>by have:=b2 s hs;omega
  refine ⟨zkm.2 ⟨a3,⟨by dsimp only;omega,a4,b4,b2,b3⟩,fun s hs t ht=>?_⟩,fun m=>?_⟩
  . rcases zy16.1 ht with rfl | ht
    . exact a2 s hs
    . have:=a2 s hs;have:=b6 t ht;omega
  . have e:has l m=(has (below l n) m||has (zfk l n) m):=by rw [<- yaa,<- hsp]
    rw [yaa,zsv,e,<- a5 m,<- b5 m];generalize has (zxc n (below l n)).1 m=A;generalize has (zss n (zfk l n)).2 m=B;dsimp only;rcases Int.lt_trichotomy m n with hlt | rfl | hgt
    . have e1:decide (m<n)=true:=by simpa using hlt
      have e2:decide (n<m)=false:=by simp;omega
      have e3:decide (m=n)=false:=by simp;omega
      have e4:decide (m<=(zss n (zfk l n)).1)=true:=by simp;omega
      rw [e1,e2,e3,e4];simp [Bool.or_assoc,Bool.or_comm,Bool.or_left_comm]
    . have e4:decide (m<=(zss m (zfk l m)).1)=true:=by simp;omega
      have e5:decide ((zxc m (below l m)).2<=m)=true:=by simp;omega
      rw [e4,e5];simp
    . have e1:decide (m<n)=false:=by simp;omega
      have e2:decide (n<m)=true:=by simpa using hgt
      have e3:decide (m=n)=false:=by simp;omega
      have e4:decide ((zxc n (below l n)).2<=m)=true:=by simp;omega
      rw [e1,e2,e3,e4];simp [Bool.or_assoc,Bool.or_comm,Bool.or_left_comm]
end Ser
namespace Ser
def cmp (n:Int) (s:Span):Int:=if s.hi<n then -1 else if s.lo>n then 1 else 0
theorem ybj (n:Int) (s:Span):zao Tryz.prog 196 [s.hv,i64 n] zae (i64 (cmp n s)) zae:=by
 refine zap mixed Tryz.func196 zz4 ?_;(conv=>whnf);refine zah (fun c=>?_) (fun c=>?_)
 . have c:s.hi<n:=by simpa using c
   (conv=>whnf);rw [cmp,zy1 c]
 . have c:¬ s.hi<n:=by simpa using c
   (conv=>whnf);refine zah (fun c2=>?_) (fun c2=>?_)
   . have c2:s.lo>n:=by simpa using c2
     (conv=>whnf);rw [cmp,zy0 c,zy1 c2]
   . have c2:¬ s.lo>n:=by simpa using c2
     (conv=>whnf);rw [cmp,zy0 c,zy0 c2]
theorem xgg {n:Int} {s:Span}:cmp n s<0↔s.hi<n:=by
 unfold cmp;split
 . simp [*]
 . split<;>simp [*]
theorem found {l:List Span} {n:Int} (h:zlc l):ztt (cmp n) l (below l n).length=has l n:=by
 have hsp:=split l n;have e:l[(below l n).length]?=(zfk l n)[0]?:=by
  conv=>lhs;arg 1;rw [hsp]
  rw [zy49 (zy20 _),zy98]
 have e2:has l n=has (zfk l n) n:=by
  conv=>lhs;arg 1;rw [hsp]
  rw [yaa,yrz.2 fun s hs=>by have:=zsr s hs;omega,Bool.false_or]
 rw [ztt,e,e2];cases ha:zfk l n with
 | nil=>rfl
 | cons t r =>
  have hr:zlc (zfk l n):=by rw [hsp] at h;exact (zkm.1 h).2.1
  rw [ha] at hr;have h1:¬ t.hi<n:=by
   exact yy101
  have h2:has r n=false:=yrz.2 fun s hs=>by have:=hr.2.2.2.1 s hs;omega
  rw [zsv,h2,Bool.or_false];show (cmp n t==0)=_;rw [cmp,zy0 h1];by_cases c:t.lo>n
  . rw [zy1 c,zy18 (by omega)];rfl
  . rw [zy0 c,zy15 (by omega),zy15 (by omega)];rfl
theorem zfa (l:List Span) (hb:l.length<2 ^ 40):zao Tryz.prog 150 [.p (.sl 2 (l.map Span.row))] zae (.own 0) (lk .free [(0,.live (.row 199 2 (l.map Span.row)))]):=by
 refine zan mixed Tryz.func150 zz4 [] (fun _=>.inl rfl) ?_;(conv=>whnf);intro b hn;(conv=>whnf);refine zah (fun c=>?_) (fun c=>?_)
 . conv=>whnf
   exact yy15
 . conv=>whnf
   refine zaa (c:=(([]:List (List PV)).length+(l.map Span.row).length)*16<=140737488355328) zz3 ?_;exact yy10
theorem zgx {α:Type} (l:List α):l=[]\/∃ a x,l=a++[x]:=by
 rcases zy134 l with h | ⟨a,x,h⟩
 . exact .inl h
 . exact .inr ⟨a,x,by rw [h,zy117]⟩
theorem zjk (n:Int) (a:List Span) (s:Span):zxc n (a++[s])=if s.hi=n-1 then (a,s.lo) else (a++[s],n):=by
 simp [zxc]
theorem ybb {α:Type} {t n:Nat} {f:α->List PV} {a b:List α} {x y:α} {k:Nat} {r:List PV} (hk:k=a.length) (hr:f y=r) :
 zad.live (.row t n (((a++[x]++b).map f).set k r))=zad.live (.row t n ((a++[y]++b).map f)):=by
 rw [zy31,zy31];exact (zeq hk hr).symm
theorem zyi {α:Type} {t n:Nat} {f:α->List PV} {a b:List α} (h:a=b):zad.live (.row t n (a.map f))=zad.live (.row t n (b.map f)):=by rw [h]
theorem yvd (A B:List Span) (n:Int) (hl:zlc (A++B)) (hA:below (A++B) n=A) (hB:zfk (A++B) n=B) (hb:(A++B).length<2 ^ 39) (h1:-9223372036854775808<=n) (h2:n<=9223372036854775807) :
 zao Tryz.prog 181 [zau (A++B),i64 n] zae (.own 0) (lk .free [(0,.live (.row 199 2 ((add (A++B) n).map Span.row)))]):=by
 refine zan mixed Tryz.func181 zz4 [] (fun _=>.inl rfl) ?_;have hlen:(A++B).length=A.length+B.length:=zy6;have hf:=found (n:=n) hl;rw [hA] at hf;(conv=>whnf)
 (refine zas [(0,9)]  ?_;(conv=>whnf);refine dO (zfa (A++B) zz0) ?_)
 (refine cZ ?_;refine dL (xfc (ybj n) (A++B) A.length zz0 (fun i h=>by rw [xgg,yqu hl i h,hA]) zz0) ?_)
 rw [hf];cases hn:has (A++B) n with
 | true =>
  have ha:add (A++B) n=A++B:=by rw [add,hn];rfl
  rw [ha];(conv=>whnf);refine zam [(0,some 9)] rfl rfl trivial rfl rfl ⟨⟨rfl,.inl ⟨9,rfl,rfl⟩⟩,trivial⟩
 | false =>
  have ha:add (A++B) n=(zxc n A).1++⟨(zxc n A).2,(zss n B).1⟩::(zss n B).2:=by rw [add,hn,hA,hB];rfl
  rw [ha];(conv=>whnf);have hAl:A.length<2 ^ 39:=by omega
  have hlow:∀ s∈A,s.hi<n:=by have:=zsr (l:=A++B) (n:=n);rwa [hA] at this
  have habv:∀ s∈B,n<s.lo:=by have:=yjm hl hn;rwa [hB] at this
  (refine zac [] [(1000,9),(1001,23)] [(0,24)] ?_;(conv=>whnf);refine dG (yib A B ⟨n,n⟩ _ rfl zz0) ?_ ⟨rfl,rfl,rfl,⟨zz1,⟨zz1,trivial⟩⟩,⟨⟨rfl,rfl⟩,trivial⟩,rfl,rfl,rfl⟩)
  cases B with
  | nil =>
   refine zbm (z':=((A.length+1:Nat):Int)) zz26 (zw ?_);refine sN ?_;have hR:zss n []=(n,[]):=rfl;rw [hR];rcases zgx A with rfl | ⟨A',s,rfl⟩
   . conv=>whnf
     try refine sG ?_
     exact yy38
   . have hs:s.hi<n:=hlow s zz5
     have hsl:(A'++[s]).length=A'.length+1:=by simp
     have hs2:=zix hl s zz5;refine sT ?_;refine zbm (z':=((A'.length:Nat):Int)) zz21 (zw ?_);refine sOm ?_;refine zal (show A'++[s]++⟨n,n⟩::[]=A'++s::⟨n,n⟩::[] by simp) rfl (zw ?_);refine zat (z:=n-1) (zbi zz0 zz0) (zw ?_);by_cases he:s.hi=n-1
     . refine sT ?_
       refine zbm (z':=((A'.length:Nat):Int)) zz21 (zw ?_);refine sOm ?_;refine zal (show A'++[s]++⟨n,n⟩::[]=(A'++[s])++⟨n,n⟩::[] from rfl) rfl (zw ?_);refine sOm ?_;refine zal (show A'++[s]++⟨n,n⟩::[]=A'++s::⟨n,n⟩::[] by simp) zz5 (zw ?_);refine zbm (z':=((A'.length+2:Nat):Int)) zz44 (zw ?_);refine zac [] [(1000,24)] [(0,84)] (zw ?_);refine ⟨_,_,_,_,zin (A'++[⟨s.lo,n⟩]) ([]) ⟨n,n⟩ _ _ zz5 zz3 zz70,⟨rfl,rfl,rfl,⟨⟨rfl,_,rfl,.inl ⟨rfl,?_⟩⟩,trivial⟩,⟨⟨rfl,rfl⟩,trivial⟩,rfl,rfl,rfl⟩,?_⟩
       . exact ybb (f:=Span.row) (a:=A') (b:=⟨n,n⟩::[]) (x:=s) (y:=⟨s.lo,n⟩) zz5 rfl
       exact yy41
     . refine sN ?_
       rw [zjk,zy0 he];exact yy38
  | cons x B =>
   have hx:=habv x zz5;have hx2:=zix hl x zz5;have hbl:(x::B).length=B.length+1:=rfl;refine zbm (z':=((A.length+1:Nat):Int)) zz26 (zw ?_);refine sT ?_;refine zbm (z':=((A.length+1:Nat):Int)) zz26 (zw ?_);refine sOm ?_;refine zal (show A++⟨n,n⟩::x::B=(A++[⟨n,n⟩])++x::B by simp) zz5 (zw ?_);refine zat (z:=n+1) (zbi zz0 zz0) (zw ?_);by_cases hr:x.lo=n+1
   . refine sT ?_
     have hR:zss n (x::B)=(x.hi,B):=by simp [zss,hr]
     rw [hR];refine zbm (z':=((A.length+1:Nat):Int)) zz26 (zw ?_);refine sOm ?_;refine zal (show A++⟨n,n⟩::x::B=(A++[⟨n,n⟩])++x::B by simp) zz5 (zw ?_);refine sOm ?_;refine zal (show A++⟨n,n⟩::x::B=A++⟨n,n⟩::x::B from rfl) zz5 (zw ?_);refine zbm (z':=((A.length+1:Nat):Int)) zz26 (zw ?_);refine zbm (z':=((A.length+2:Nat):Int)) (by show W ((A.length:Int)+2)=_;rw [zbi (by omega) (by omega)];push_cast;rfl) (zw ?_);refine zac [] [(1000,24)] [(0,56)] (zw ?_);refine ⟨_,_,_,_,yhf (out:=A++⟨n,x.hi⟩::B) (A++[⟨n,x.hi⟩]) B x _ _ rfl zz5 zz5 zz3 zz70,⟨rfl,rfl,rfl,⟨⟨rfl,_,rfl,.inl ⟨rfl,?_⟩⟩,trivial⟩,⟨⟨rfl,rfl⟩,trivial⟩,rfl,rfl,rfl⟩,?_⟩
     . refine (zeq (f:=Span.row) (a:=A) (b:=x::B) (x:=⟨n,n⟩) (y:=⟨n,x.hi⟩) zz5 rfl).symm.trans (zyi zz5)
     conv=>whnf
     try refine sG ?_
     rcases zgx A with rfl | ⟨A',s,rfl⟩
     . conv=>whnf
       try refine sG ?_
       refine zam [(0,some 56)] rfl rfl trivial rfl rfl ⟨⟨rfl,.inl ⟨56,rfl,rfl⟩⟩,trivial⟩
     . have hs:s.hi<n:=hlow s zz5
       have hsl:(A'++[s]).length=A'.length+1:=by simp
       have hs2:=zix hl s zz5;refine sT ?_;refine zbm (z':=((A'.length:Nat):Int)) zz21 (zw ?_);refine sOm ?_;refine zal (show A'++[s]++⟨n,x.hi⟩::B=A'++s::⟨n,x.hi⟩::B by simp) rfl (zw ?_);refine zat (z:=n-1) (zbi zz0 zz0) (zw ?_);by_cases he:s.hi=n-1
       . refine sT ?_
         refine zbm (z':=((A'.length:Nat):Int)) zz21 (zw ?_);refine sOm ?_;refine zal (show A'++[s]++⟨n,x.hi⟩::B=(A'++[s])++⟨n,x.hi⟩::B from rfl) rfl (zw ?_);refine sOm ?_;refine zal (show A'++[s]++⟨n,x.hi⟩::B=A'++s::⟨n,x.hi⟩::B by simp) zz5 (zw ?_);refine zbm (z':=((A'.length+2:Nat):Int)) zz44 (zw ?_);refine zac [] [(1000,56)] [(0,84)] (zw ?_);refine ⟨_,_,_,_,zin (A'++[⟨s.lo,x.hi⟩]) (B) ⟨n,x.hi⟩ _ _ zz5 zz3 zz70,⟨rfl,rfl,rfl,⟨⟨rfl,_,rfl,.inl ⟨rfl,?_⟩⟩,trivial⟩,⟨⟨rfl,rfl⟩,trivial⟩,rfl,rfl,rfl⟩,?_⟩
         . exact ybb (f:=Span.row) (a:=A') (b:=⟨n,x.hi⟩::B) (x:=s) (y:=⟨s.lo,x.hi⟩) zz5 rfl
         exact yy41
       . refine sN ?_
         rw [zjk,zy0 he];refine zam [(0,some 56)] rfl rfl trivial rfl rfl ⟨⟨rfl,.inl ⟨56,rfl,rfl⟩⟩,trivial⟩
   . refine sN ?_
     have hR:zss n (x::B)=(n,x::B):=by simp [zss,hr]
     rw [hR];rcases zgx A with rfl | ⟨A',s,rfl⟩
     . conv=>whnf
       try refine sG ?_
       exact yy38
     . have hs:s.hi<n:=hlow s zz5
       have hsl:(A'++[s]).length=A'.length+1:=by simp
       have hs2:=zix hl s zz5;refine sT ?_;refine zbm (z':=((A'.length:Nat):Int)) zz21 (zw ?_);refine sOm ?_;refine zal (show A'++[s]++⟨n,n⟩::x::B=A'++s::⟨n,n⟩::x::B by simp) rfl (zw ?_);refine zat (z:=n-1) (zbi zz0 zz0) (zw ?_);by_cases he:s.hi=n-1
       . refine sT ?_
         refine zbm (z':=((A'.length:Nat):Int)) zz21 (zw ?_);refine sOm ?_;refine zal (show A'++[s]++⟨n,n⟩::x::B=(A'++[s])++⟨n,n⟩::x::B from rfl) rfl (zw ?_);refine sOm ?_;refine zal (show A'++[s]++⟨n,n⟩::x::B=A'++s::⟨n,n⟩::x::B by simp) zz5 (zw ?_);refine zbm (z':=((A'.length+2:Nat):Int)) zz44 (zw ?_);refine zac [] [(1000,24)] [(0,84)] (zw ?_);refine ⟨_,_,_,_,zin (A'++[⟨s.lo,n⟩]) (x::B) ⟨n,n⟩ _ _ zz5 zz3 zz70,⟨rfl,rfl,rfl,⟨⟨rfl,_,rfl,.inl ⟨rfl,?_⟩⟩,trivial⟩,⟨⟨rfl,rfl⟩,trivial⟩,rfl,rfl,rfl⟩,?_⟩
         . exact ybb (f:=Span.row) (a:=A') (b:=⟨n,n⟩::x::B) (x:=s) (y:=⟨s.lo,n⟩) zz5 rfl
         exact yy41
       . refine sN ?_
         rw [zjk,zy0 he];exact yy38
end Ser
namespace Ser
theorem yzv (l:List Span) (n:Int) (hl:zlc l) (hb:l.length<2 ^ 39) (h1:-9223372036854775808<=n) (h2:n<=9223372036854775807) :
 zao Tryz.prog 181 [zau l,i64 n] zae (.own 0) (lk .free [(0,.live (.row 199 2 ((add l n).map Span.row)))]):=by
 have hsp:=split l n;have h:=yvd (below l n) (zfk l n) n (by rwa [<- hsp]) (by rw [<- hsp]) (by rw [<- hsp]) (by rwa [<- hsp]) h1 h2
 rwa [<- hsp] at h
def up:List Span->Int->Int×List Span
 | [],n=>(n,[])
 | s::r,n=>if s.lo<=n+1 then up r (if s.hi>n then s.hi else n) else (n,s::r)
def wnd:List Span->List Span->HV
 | [],_=>.own 900
 | _::a,b=>.osl 900 2 (a.length+1) b.length
theorem yln {α:Type} {f:α->List PV} {l a b c:List α} {o n:Nat} {K:List (List PV)->Prop} (h:l=a++b++c) (ho:o=a.length) (hn:n=b.length) (hk:K (b.map f)):zrt (l.map f) o n K:=by
 subst h ho hn;refine ⟨_,rfl,by simp,?_⟩
 rwa [<- zy102,<- zy119,zy31,zy111,zy151]
theorem xbf {i s o o' n n':Nat} (ho:o=o') (hn:n=n'):HV.osl i s o n=.osl i s o' n':=by rw [ho,hn]
theorem yvx (l:List Span) (n:Int) (hl:∀ s∈l,s.hi<=1099511627776) (hb:l.length<2 ^ 39) (h1:-1099511627776<=n) (h2:n<=1099511627776) :
 zao Tryz.prog 180 [zau l,i64 n] zae (.tup [i64 (up l n).1,.own 0]) (lk .free [(0,.live (.row 199 2 ((up l n).2.map Span.row)))]):=by
 refine zan mixed Tryz.func180 zz4 [] (fun _=>.inl rfl) ?_;generalize hR:up l n=R;(conv=>whnf)
 (refine zas [(0,8)]  ?_;(conv=>whnf);refine dO (zfa l zz0) ?_)
 refine ⟨{x:(List Span×List Span)×Int // l=x.1.1++x.1.2/\R=up x.1.2 x.2/\-1099511627776<=x.2/\x.2<=1099511627776},fun | ⟨((a,b),m),_⟩=>hs 32 [(1,i64 m),(6,wnd a b)] [(900,.live (.row 199 2 (l.map Span.row)))],fun x=>x.1.1.2.length,⟨(([],l),n),rfl,hR.symm,h1,h2⟩,?_,?_⟩
 . exact (zdi [(900,some 8)])
 rintro ⟨⟨⟨a,b⟩,m⟩,h,hu,hm1,hm2⟩;dsimp only at h hu hm1 hm2;have hlen:l.length=a.length+b.length:=by rw [h];simp
 have hlm:(l.map Span.row).length=l.length:=by simp
 cases a with
 | nil =>
  rw [zy91] at h;rw [zy13,zy58] at hlen;(conv=>whnf);cases b with
  | nil =>
   rw [zy13] at hlen;refine sN ?_
   (refine zas [(0,31)]  ?_;(conv=>whnf);refine dO (zfa l zz0) ?_)
   exact yy96
  | cons s r =>
   rw [zy5] at hlen;have hs:=hl s zz66;refine sT ?_;refine zaa zz0 (zw ?_);refine zal (a:=[]) h rfl (zw ?_);refine sF ?_;by_cases c:s.lo<=m+1
   . refine sT ?_
     refine zaa zz0 (zw ?_);refine zal (a:=[]) h rfl (zw ?_);refine zaa zz0 (zw ?_);refine ⟨⟨(([s],r),if s.hi>m then s.hi else m),h,by dsimp only;rw [hu,up,zy1 c],by dsimp only;split<;>omega,by dsimp only;split<;>omega⟩,(zcu [(900,some 900)] zz45),by simp⟩
   . refine sN ?_
     (refine zas [(0,31)]  ?_;(conv=>whnf);refine dO (zfa l zz0) ?_)
     rw [show up (s::r) m=(m,s::r) by simp [up,c]] at hu;exact yy96
 | cons t a =>
  rw [zy5] at hlen;have hal:(a.length:Int)+1=((t::a).length:Nat):=by simp
  (conv=>whnf);cases b with
  | nil =>
   rw [zy13] at hlen;(conv=>whnf)
   try refine sG ?_
   refine zas [(0,31)] (zw ?_);refine yln (a:=t::a) (b:=[]) (c:=[]) zz66 rfl rfl ?_;(conv=>whnf);refine ⟨_,_,zfa [] zz5,⟨⟨⟨rfl,rfl⟩,trivial⟩,rfl,rfl,rfl⟩,?_⟩;(conv=>whnf);subst hu;refine zam [(0,some 31)] rfl rfl trivial rfl rfl ⟨⟨rfl,.inl ⟨31,rfl,rfl⟩⟩,trivial⟩
  | cons s r =>
   rw [zy5] at hlen;have hs:=hl s zz66;have hrl:(s::r).length=r.length+1:=rfl;refine sT ?_;refine zaa zz0 (zw ?_);refine zal (a:=t::a) h zz5 (zw ?_);refine sF ?_;by_cases c:s.lo<=m+1
   . refine sT ?_
     refine zaa zz0 (zw ?_);refine zal (a:=t::a) h zz5 (zw ?_);refine zaa zz0 (zw ?_);refine ⟨⟨((t::(a++[s]),r),if s.hi>m then s.hi else m),by rw [h];simp,by dsimp only;rw [hu,up,zy1 c],by dsimp only;split<;>omega,by dsimp only;split<;>omega⟩,(zcu [(900,some 900)] zz45),by simp⟩
   . refine sN ?_
     refine zas [(0,31)] (zw ?_);refine yln (a:=t::a) (b:=s::r) (c:=[]) zz66 rfl rfl ?_;(conv=>whnf);refine ⟨_,_,zfa (s::r) zz0,⟨⟨⟨rfl,rfl⟩,trivial⟩,rfl,rfl,rfl⟩,?_⟩;(conv=>whnf);rw [show up (s::r) m=(m,s::r) by simp [up,c]] at hu;subst hu;refine zam [(0,some 31)] rfl rfl trivial rfl rfl ⟨⟨rfl,.inl ⟨31,rfl,rfl⟩⟩,trivial⟩
instance:DecidableEq Span:=fun a b=>decidable_of_iff (a.lo=b.lo/\a.hi=b.hi) ⟨fun h=>by cases a;cases b;simp_all,fun h=>by rw [h];simp⟩
end Ser
namespace Ser
def p1 (n:Int):List Span->Int×Int->Int×Int
 | [],p=>p
 | s::r,p=>p1 n r (if s.hi=n-1 then (s.lo,p.2) else if s.lo=n+1 then (p.1,s.hi) else p)
def p2 (n lo hi:Int):List Span->Bool->List Span
 | [],put=>if put then [] else [⟨lo,hi⟩]
 | s::r,put=>if s.hi=n-1\/s.lo=n+1 then p2 n lo hi r put else if put=false/\s.lo>n then ⟨lo,hi⟩::s::p2 n lo hi r true else s::p2 n lo hi r put
end Ser
namespace Rcv
open Srt Jn Ser
def yzo (r:Receiver) (a b c d:HV):List HV:=[i64 r.config.streams,i64 r.config.part,i64 r.config.packet,i64 r.config.paths,i64 r.config.turns,i64 r.config.waiting,i64 r.config.first,i64 r.cum,a,b,c,d]
abbrev xhk (l:List Span):zad:=.live (.row 199 2 (l.map Span.row))
abbrev xic (l:List zay):zad:=.live (.row 162 12 (l.map zay.row))
abbrev ypc (l:List Int):zad:=.live (.row 3 1 (l.map fun n=>[pi n]))
abbrev xje (l:List zcp):zad:=.live (.row 56 4 (l.map zcp.row))
abbrev xib (r:Receiver) (a b c d:Nat):HV:=.agg (yzo r (.own a) (.own b) (.own c) (.own d))
abbrev yzn (r:Receiver) (a b c d:Nat) (L:List (Nat×zad)):List (Nat×zad):=(a,xhk r.zau)::(b,xic r.pieces)::(c,ypc r.zbq)::(d,xje r.log)::L
abbrev tkH (r:Receiver):List (Nat×zad):=(1000,.live (.cells 225 (yzo r (.own 1001) (.own 1002) (.own 1003) (.own 1004))))::yzn r 1001 1002 1003 1004 []
abbrev tkD (r:Receiver):List (Nat×zad):=(1000,.live (.cells 225 (yzo r (.own 0) (.own 1) (.own 2) (.own 3))))::yzn r 0 1 2 3 [(1001,.dead),(1002,.dead),(1003,.dead),(1004,.dead)]
def ymb (c:Config):Receiver:=⟨c,c.first-1,[],[],List.replicate (max c.streams 0).toNat 0,[]⟩
theorem zpi (c:Config) (h1:-9223372036854775808<c.first) (h2:c.first<=9223372036854775807) (h3:c.streams<=1099511627776) :
 zao Tryz.prog 110 [c.hv] zae (xib (ymb c) 0 1 2 3) (lk .free (yzn (ymb c) 0 1 2 3 [])):=by
 refine zan mixed Tryz.func110 zz4 [] (fun _=>.inl rfl) ?_;(conv=>whnf);refine sF ?_;refine zaa (c:=(0<=(if 0>c.streams then 0 else c.streams:Int)/\(if 0>c.streams then 0 else c.streams:Int)=(if 0>c.streams then 0 else c.streams:Int)/\(if 0>c.streams then 0 else c.streams:Int)*(8:Nat)<=140737488355328)) (by split<;>omega) (zw ?_);refine sD ?_;refine zam [(0,none),(1,none),(2,some 10),(3,none)] rfl rfl trivial rfl rfl ⟨⟨rfl,.inr ⟨rfl,rfl⟩⟩,⟨rfl,.inr ⟨rfl,rfl⟩⟩,⟨rfl,.inl ⟨10,rfl,?_⟩⟩,⟨rfl,.inr ⟨rfl,rfl⟩⟩,trivial⟩;refine zaq ?_;rw [show (ymb c).zbq=List.replicate (max c.streams 0).toNat 0 from rfl,zy145];have:(max c.streams 0).toNat=(if 0>c.streams then 0 else c.streams:Int).toNat:=by split<;>omega
 rw [this];rfl
structure Fit (r:Receiver):Prop where
 zau:r.zau.length<2 ^ 36
 pieces:r.pieces.length<2 ^ 22
 bytes:tot r.pieces<2 ^ 22
 zbq:r.zbq.length<2 ^ 36
 log:r.log.length<2 ^ 36
 data:∀ a∈r.log,a.data.length<2 ^ 40
abbrev xfq:List HV:=[i64 0,i64 0,i64 0,i64 0,i64 0,i64 0,i64 0,i64 0,zgm,zgm,zgm,zgm]
theorem zdc (r:Receiver) (hr:Fit r):zao Tryz.prog 111 [r.hv] zae (xib r 0 1 2 3) (lk .free (yzn r 0 1 2 3 [])):=by
 obtain ⟨h1,h2,h3,h4,h5,h6⟩:=hr;refine zan mixed Tryz.func111 zz4 [] (fun _=>.inl rfl) ?_;(conv=>whnf)
 (refine zas [(0,11)]  ?_;(conv=>whnf);refine dO (Cl.zfa r.zau zz0) ?_)
 (refine zas [(0,14)]  ?_;(conv=>whnf);refine dO (Cl.zpv r.zbq zz0) ?_)
 refine sD ?_;refine ⟨{x:List zay×List zay // r.pieces=x.1++x.2},fun | ⟨(A,B),_⟩=>hs 56 [(1,.ptr 1 0),(2,.ptr 2 0),(3,.own 900),(18,pieces r.pieces),(19,i64 r.pieces.length),(20,i64 A.length)] [(1,.live (.cells 37 (yzo r (.own 11) (pieces r.pieces) (.own 14) (.p (.sl 4 (r.log.map zcp.row)))))),(2,.live (.cells 37 xfq)),(11,xhk r.zau),(14,ypc r.zbq),(900,xic A)],fun x=>x.1.2.length,⟨([],r.pieces),rfl⟩,?_,?_⟩
 . exact (zdi [(1,some 1),(2,some 2),(11,some 11),(14,some 14),(900,none)])
 rintro ⟨⟨A,B⟩,h⟩;dsimp only at h;have hl:r.pieces.length=A.length+B.length:=by rw [h];simp
 (conv=>whnf);cases B with
 | cons p B =>
  have hp:p.chunk.data.length<=tot r.pieces:=xfk zz66;rw [zy5] at hl;refine sT ?_;refine zal h rfl (zw ?_)
  (refine zas [(0,27)]  ?_;(conv=>whnf);refine dO (Cl.zcs p.chunk.data zz0) ?_)
  refine zaa (c:=((A.map zay.row).length+1)*136<=140737488355328) zz3 (zw ?_);refine sF ?_;refine ⟨⟨(A++[p],B),by rw [h];simp⟩,(zcu [(1,some 1),(2,some 2),(11,some 11),(14,some 14),(900,some 33)] (by repeat' (first | exact z0 | refine z1 ?_ | refine ⟨?_,?_⟩ | ((exact zca (f:=zay.row) rfl rfl)) | exact z2))),by simp⟩
 | nil =>
  rw [zy13] at hl;rw [zy7] at h;refine sN ?_;refine ⟨{x:List zcp×List zcp // r.log=x.1++x.2},fun | ⟨(A,B),_⟩=>hs 56 [(1,.ptr 1 0),(2,.ptr 2 0),(3,.own 900),(6,.own 901),(36,.p (.sl 4 (r.log.map zcp.row))),(37,i64 r.log.length),(38,i64 A.length)] [(1,.live (.cells 37 (yzo r (.own 11) (pieces r.pieces) (.own 14) (.p (.sl 4 (r.log.map zcp.row)))))),(2,.live (.cells 37 xfq)),(11,xhk r.zau),(14,ypc r.zbq),(900,xic r.pieces),(901,xje A)],fun x=>x.1.2.length,⟨([],r.log),rfl⟩,?_,?_⟩
  . exact (zcu [(1,some 1),(2,some 2),(11,some 11),(14,some 14),(900,some 900),(901,none)] zz49)
  rintro ⟨⟨A,B⟩,h⟩;dsimp only at h;have hl:r.log.length=A.length+B.length:=by rw [h];simp
  (conv=>whnf);cases B with
  | cons p B =>
   have hp:=h6 p zz66;rw [zy5] at hl;refine sT ?_;refine zal h rfl (zw ?_)
   (refine zas [(0,44)]  ?_;(conv=>whnf);refine dO (Cl.zcs p.data zz0) ?_)
   refine zaa (c:=((A.map zcp.row).length+1)*48<=140737488355328) zz3 (zw ?_);refine sF ?_;refine ⟨⟨(A++[p],B),by rw [h];simp⟩,(zcu [(1,some 1),(2,some 2),(11,some 11),(14,some 14),(900,some 900),(901,some 49)] (by repeat' (first | exact z0 | refine z1 ?_ | refine ⟨?_,?_⟩ | ((exact zca (f:=zcp.row) rfl rfl)) | exact z2))),by simp⟩
  | nil =>
   rw [zy13] at hl;rw [zy7] at h;refine sN ?_;refine zam [(0,some 11),(1,some 900),(2,some 14),(3,some 901)] rfl rfl trivial rfl rfl ⟨⟨rfl,.inl ⟨11,rfl,rfl⟩⟩,⟨rfl,.inl ⟨900,rfl,rfl⟩⟩,⟨rfl,.inl ⟨14,rfl,rfl⟩⟩,⟨rfl,.inl ⟨901,rfl,?_⟩⟩,trivial⟩;exact zaq (by rw [h])
theorem ygc (r:Receiver) (h2:r.pieces.length<2 ^ 40) (h3:tot r.pieces<2 ^ 60):zao Tryz.prog 179 [r.hv] zae (i64 (tot r.pieces:Nat)) zae:=by
 refine zap mixed Tryz.func179 zz4 ?_;(conv=>whnf);refine ⟨{x:List zay×List zay // r.pieces=x.1++x.2},fun | ⟨(A,B),_⟩=>hs 21 [(3,i64 (tot A:Nat)),(7,pieces r.pieces),(8,i64 r.pieces.length),(9,i64 A.length)] [],fun x=>x.1.2.length,⟨([],r.pieces),rfl⟩,?_,?_⟩
 . exact (zdi [])
 rintro ⟨⟨A,B⟩,h⟩;dsimp only at h;have hl:r.pieces.length=A.length+B.length:=by rw [h];simp
 have ht:tot r.pieces=tot A+tot B:=by rw [h,zvz]
 (conv=>whnf);cases B with
 | cons p B =>
  rw [zy5] at hl;rw [zet] at ht;refine sT ?_;refine zal h rfl (zw ?_);refine sF ?_;refine sF ?_;exact ⟨⟨(A++[p],B),by rw [h];simp⟩,(zcu [] (by repeat' (first | exact z0 | refine z1 ?_ | refine ⟨?_,?_⟩ | ((exact zbk (by rw [zvz,zet];simp [tot]))) | exact z2))),by simp⟩
 | nil =>
  rw [zy13] at hl;rw [zy7] at h;refine sN ?_;rw [h]
def zeg (s m:Int) (o:Bool) (p:zay):Bool:=decide (p.chunk.stream=s)&&decide (p.chunk.mid=m)&&(p.chunk.ordered==o)
theorem yvo (p:zay) (s m:Int) (o:Bool):zao Tryz.prog 199 [.rp p.row,i64 s,i64 m,zbl o] zae (zbl (zeg s m o p)) zae:=by
 refine zap mixed Tryz.func199 zz4 ?_;(conv=>whnf);by_cases c1:p.chunk.stream=s
 . refine zai zz52 ?_;conv=>whnf
   by_cases c2:p.chunk.mid=m
   . refine zai zz46 ?_;conv=>whnf
     simp [zeg,c1,c2]
   . refine zag zz46 (zw ?_)
     simp [zeg,c2]
 . refine zag zz52 (zw ?_)
   simp [zeg,c1]
theorem ypj (s m:Int) (o:Bool) (p:zay):zao Tryz.prog 211 [p.hv,.rp [pi s],.rp [pi m],.rp [pb o]] zae (zbl (zeg s m o p)) zae:=by
 refine zap mixed Tryz.func211 zz4 ?_;(conv=>whnf)
 ((refine zbn ?_;(conv=>whnf);refine ⟨_,yvo p s m o,rfl,?_⟩;conv=>whnf);try refine sG ?_)
def zli (r:Receiver) (s m:Int) (o:Bool):Receiver:={r with pieces:=r.pieces.filter fun p=>!zeg s m o p}
theorem zvn (r:Receiver) (s m:Int) (o:Bool) (h2:r.pieces.length<2 ^ 38) :
 zao Tryz.prog 201 [.ptr 1000 0,i64 s,i64 m,zbl o] (lk .free (tkH r)) (.tup []) (lk .free (tkD (zli r s m o))):=by
 refine zan mixed Tryz.func201 zz4 [1000,1001,1002,1003,1004] zbj ?_;(conv=>whnf)
 (refine zac [false,true] [(1000,1002)] [(0,15)] ?_;(conv=>whnf);refine dG (Cl.ynw (fun p=>ypj s m o p) r.pieces zz0) ?_)
 (exact zbz (pK5 [(0,some 1001),(1,some 15),(2,some 1003),(3,some 1004)]))
def dlv (r:Receiver) (s m:Int) (o:Bool):Receiver×Bool:=match join (r.pieces.filter (zeg s m o)) with
 | none=>(r,false)
 | some b=>({zli r s m o with log:=r.log++[⟨s,m,o,b⟩]},true)
theorem zmt (f:zay->Bool):∀ l:List zay,tot (l.filter f)<=tot l
 | []=>zy20 _
 | p::l=>by
  have:=zmt f l;rw [zy57];split
  . rw [zet,zet];omega
  . rw [zet];omega
theorem zma (r:Receiver) (s m:Int) (o:Bool) (h2:r.pieces.length<2 ^ 37) (h3:tot r.pieces<2 ^ 40) (h4:r.log.length<2 ^ 38) :
 zao Tryz.prog 183 [.ptr 1000 0,i64 s,i64 m,zbl o] (lk .free (tkH r)) (zbl (dlv r s m o).2) (lk .free (tkD (dlv r s m o).1)):=by
 refine zan mixed Tryz.func183 zz4 [1000,1001,1002,1003,1004] zbj ?_;(conv=>whnf);refine ⟨{x:List zay×List zay // r.pieces=x.1++x.2},fun | ⟨(A,B),_⟩=>hsP [1000,1001,1002,1003,1004] 61 [(0,.ptr 1000 0),(1,i64 s),(2,i64 m),(3,zbl o),(8,zbl false),(9,.own 900),(18,.own 1002),(19,i64 r.pieces.length),(20,i64 A.length)] (tkH r++[(900,xic (A.filter (zeg s m o)))]),fun x=>x.1.2.length,⟨([],r.pieces),rfl⟩,?_,?_⟩
 . exact (zbv (pK5 [(900,none)]) zz2)
 rintro ⟨⟨A,B⟩,h⟩;dsimp only at h;have hl:r.pieces.length=A.length+B.length:=by rw [h];simp
 have hf:=zy65 (zeg s m o) A;(conv=>whnf);cases B with
 | cons p B =>
  rw [zy5] at hl;refine sT ?_;refine sO ?_;refine zal h rfl (zw ?_)
  (refine cL ?_;refine dL (yvo p s m o) ?_)
  cases hp:zeg s m o p with
  | true =>
   conv=>whnf
   try refine sG ?_
   refine zaa (c:=(((A.filter (zeg s m o)).map zay.row).length+1)*136<=140737488355328) zz3 (zw ?_)
   try refine sG ?_
   refine sF ?_;exact ⟨⟨(A++[p],B),by rw [h];simp⟩,(zbv (pK5 [(900,some 31)]) (by repeat' (first | exact z0 | refine z1 ?_ | refine ⟨?_,?_⟩ | ((exact zca (f:=zay.row) (by rw [zy52,zy57,zy1 hp];rfl) rfl)) | exact z2))),by simp⟩
  | false =>
   conv=>whnf
   try refine sG ?_
   refine sF ?_;exact ⟨⟨(A++[p],B),by rw [h];simp⟩,(zbv (pK5 [(900,some 900)]) (by repeat' (first | exact z0 | refine z1 ?_ | refine ⟨?_,?_⟩ | ((exact zaq (by rw [zy52,zy57,zy0 (by rw [hp];decide)];simp))) | exact z2))),by simp⟩
 | nil =>
  rw [zy13] at hl;rw [zy7] at h;have ht:=zmt (zeg s m o) A;have hA:tot A=tot r.pieces:=by rw [h]
  have hd:dlv r s m o=match join (A.filter (zeg s m o)) with
   | none=>(r,false)
   | some b=>({zli r s m o with log:=r.log++[⟨s,m,o,b⟩]},true):=by rw [dlv,h]
  have ps:=yvj (A.filter (zeg s m o)) zz0 zz0;refine sN ?_;cases hj:join (A.filter (zeg s m o)) with
  | none =>
   rw [hj] at hd ps;rw [hd]
   (refine zas [(0,35)]  ?_;(conv=>whnf);refine dO ps ?_)
   exact yy79
  | some b =>
   rw [hj] at hd ps;rw [hd]
   (refine zas [(0,35)]  ?_;(conv=>whnf);refine dO ps ?_)
   refine zaa (c:=((r.log.map zcp.row).length+1)*48<=140737488355328) zz3 (zw ?_)
   try refine sG ?_
   (refine zac [] [(1000,1000),(1001,1001),(1002,1002),(1003,1003),(1004,52)] [(0,910),(1,911),(2,912),(3,913)] ?_;(conv=>whnf);refine dG (zvn {r with log:=r.log++[⟨s,m,o,b⟩]} s m o zz16) ?_ ⟨rfl,rfl,rfl,⟨zz1,⟨zz1,⟨zz1,⟨zz1,⟨⟨rfl,_,rfl,.inl ⟨rfl,zca (f:=zcp.row) (x:=⟨s,m,o,b⟩) rfl rfl⟩⟩,trivial⟩⟩⟩⟩⟩,⟨⟨rfl,rfl⟩,⟨⟨rfl,rfl⟩,⟨⟨rfl,rfl⟩,⟨⟨rfl,rfl⟩,trivial⟩⟩⟩⟩,rfl,rfl,rfl⟩)
   exact yy58
theorem ylw {l:List zay} {b:List UInt8} (h:join l=some b):0<l.length:=by
 unfold join at h;split at h
 . cases h
 . rename_i c;exact zy30.2 c
theorem zoi {r:Receiver} {s m:Int} {o:Bool} (h:(dlv r s m o).2=true):(dlv r s m o).1.pieces.length<r.pieces.length:=by
 unfold dlv at h ⊢;split
 . rename_i hj;rw [hj] at h;cases h
 . rename_i b hj
   have h1:=ylw hj;have h2:(r.pieces.filter fun p=>!zeg s m o p).length+(r.pieces.filter (zeg s m o)).length=r.pieces.length:=by
    induction r.pieces with
    | nil=>rfl
    | cons p l ih =>
     rw [zy57,zy57];cases zeg s m o p<;>simp<;>omega
   show (r.pieces.filter fun p=>!zeg s m o p).length<_;omega
theorem zlh (r:Receiver) (s m:Int) (o:Bool):(dlv r s m o).1.zbq=r.zbq/\(dlv r s m o).1.cum=r.cum/\(dlv r s m o).1.zau=r.zau/\(dlv r s m o).1.config=r.config/\(dlv r s m o).1.pieces.length<=r.pieces.length/\tot (dlv r s m o).1.pieces<=tot r.pieces /\
 (dlv r s m o).1.log.length+(dlv r s m o).1.pieces.length<=r.log.length+r.pieces.length:=by
 have hl:=fun h=>zoi (r:=r) (s:=s) (m:=m) (o:=o) h
 unfold dlv at hl ⊢;split
 . exact ⟨rfl,rfl,rfl,rfl,zy20 _,zy20 _,zy20 _⟩
 . rename_i b hj
   rw [hj] at hl;have h1:=hl rfl;dsimp only [zli] at h1 ⊢;refine ⟨rfl,rfl,rfl,rfl,zy65 _ _,zmt _ _,?_⟩;simp only [zy6,zy56];omega
def ygv (r:Receiver) (k:Nat):Receiver:={r with zbq:=r.zbq.set k (r.zbq[k]?.getD 0+1)}
def zwa:Nat->Receiver->Nat->Receiver
 | 0,r,_=>r
 | n+1,r,k=>if (dlv r k (tag (r.zbq[k]?.getD 0)) true).2 then zwa n (ygv (dlv r k (tag (r.zbq[k]?.getD 0)) true).1 k) k else (dlv r k (tag (r.zbq[k]?.getD 0)) true).1
def turns (r:Receiver) (k:Nat):Receiver:=zwa (r.pieces.length+1) r k
theorem zhp (r:Receiver) (k:Nat):turns r k=if (dlv r k (tag (r.zbq[k]?.getD 0)) true).2 then turns (ygv (dlv r k (tag (r.zbq[k]?.getD 0)) true).1 k) k else (dlv r k (tag (r.zbq[k]?.getD 0)) true).1:=by
 have gen:∀ (n m:Nat) (r:Receiver),r.pieces.length<n->r.pieces.length<m->zwa n r k=zwa m r k:=by
  intro n
  induction n with
  | zero=>intro m r h;omega
  | succ n ih =>
   intro m r h1 h2;cases m with
   | zero=>omega
   | succ m =>
    rw [zwa,zwa];split
    . rename_i hd
      have:=zoi hd;exact ih m _ (by show (dlv r k _ true).1.pieces.length<n;omega) (by show (dlv r k _ true).1.pieces.length<m;omega)
    . rfl
 conv=>lhs;rw [turns,zwa]
 split
 . rename_i hd
   have:=zoi hd;exact gen _ _ _ (by show (dlv r k _ true).1.pieces.length<_;omega) (by show (dlv r k _ true).1.pieces.length<_;exact zy156 _)
 . rfl
structure xgb (r:Receiver) (k:Nat):Prop where
 pieces:r.pieces.length<2 ^ 22
 bytes:tot r.pieces<2 ^ 22
 log:r.log.length+r.pieces.length<2 ^ 37
 has:k<r.zbq.length
 lo:-(2 ^ 60)<r.zbq[k]?.getD 0
 hi:r.zbq[k]?.getD 0+r.pieces.length<2 ^ 60
theorem yvw (r:Receiver) (k:Nat) (hf:xgb r k) :
 zao Tryz.prog 182 [.ptr 1000 0,i64 k] (lk .free (tkH r)) (.tup []) (lk .free (tkD (turns r k))):=by
 generalize hT:turns r k=T;refine zan mixed Tryz.func182 zz4 [1000,1001,1002,1003,1004] zbj ?_;(conv=>whnf);refine ⟨{x:Receiver // xgb x k/\turns x k=T},fun | ⟨x,_⟩=>hsP [1000,1001,1002,1003,1004] 26 [(0,.ptr 1000 0),(1,i64 k)] ((1000,.live (.cells 225 (yzo x (.own 900) (.own 901) (.own 902) (.own 903))))::yzn x 900 901 902 903 [(1001,.dead),(1002,.dead),(1003,.dead),(1004,.dead)]),fun x=>x.1.pieces.length,⟨r,hf,hT⟩,?_,?_⟩
 . exact (zcx (pK5 [(900,some 1001),(901,some 1002),(902,some 1003),(903,some 1004)]))
 rintro ⟨x,⟨h1,h2,h3,h4,h5,h6⟩,he⟩;(conv=>whnf);refine sO ?_;refine zdn k rfl h4 (zw ?_);have hg:x.zbq[k]?.getD 0=x.zbq[k]:=by simp [h4]
 (refine cL ?_;refine dL (zcv _) ?_)
 have hstep:=zhp x k;rw [he,hg] at hstep;rw [hg] at h5 h6;obtain ⟨k1,k2,k3,k4,k5,k6,k7⟩:=zlh x k (tag x.zbq[k]) true;have hless:(dlv x k (tag x.zbq[k]) true).2=true->(dlv x k (tag x.zbq[k]) true).1.pieces.length<x.pieces.length:=fun h=>zoi h
 (refine zac [] [(1000,1000),(1001,900),(1002,901),(1003,902),(1004,903)] [(0,910),(1,911),(2,912),(3,913)] ?_;(conv=>whnf);refine dG (zma x k (tag x.zbq[k]) true zz0 zz0 zz0) ?_)
 generalize hD:dlv x k (tag x.zbq[k]) true=D at *
 obtain ⟨y,ok⟩:=D;dsimp only at k1 k2 k3 k4 k5 k6 k7 hless hstep;have h4':k<y.zbq.length:=by rw [k1];exact h4
 have hyk:y.zbq[k]=x.zbq[k]:=by simp only [k1]
 cases ok with
 | false =>
  have hstep:T=y:=hstep;subst hstep;(conv=>whnf)
  try refine sG ?_
  exact yy58
 | true =>
  have hless:=hless rfl;(conv=>whnf)
  try refine sG ?_
  refine sO ?_;refine zdn k rfl h4' (zw ?_);rw [hyk];refine sF ?_;refine sO ?_;refine zdn k rfl h4' (zw ?_);have hb:(ygv y k).zbq[k]?.getD 0=x.zbq[k]+1:=by
   show (y.zbq.set k (y.zbq[k]?.getD 0+1))[k]?.getD 0=_;rw [zy25 h4',zy3 h4',hyk];rfl
  refine ⟨⟨ygv y k,⟨by show y.pieces.length<_;omega,by show tot y.pieces<_;omega,by show y.log.length+y.pieces.length<_;omega,by show k<(y.zbq.set k _).length;rw [zy28];exact h4',by rw [hb];omega,by rw [hb];show _+(y.pieces.length:Int)<_;omega⟩,?_⟩,(zbv (pK5 [(900,some 910),(901,some 911),(902,some 912),(903,some 913)]) (by repeat' (first | exact z0 | refine z1 ?_ | refine ⟨?_,?_⟩ | ((refine zaq ?_;show _=(y.zbq.set k (y.zbq[k]?.getD 0+1)).map _;rw [zy107,zy3 h4',hyk];rfl)) | exact z2))),by show y.pieces.length<x.pieces.length;omega⟩;rw [hstep];rfl
end Rcv
namespace Rcv
open Srt Jn Ser
theorem zvv (r:Receiver) (k:Nat) (z:Int) (hz:z=k) (hf:xgb r k) :
 zao Tryz.prog 182 [.ptr 1000 0,i64 z] (lk .free (tkH r)) (.tup []) (lk .free (tkD (turns r k))):=by
 subst hz;exact yvw r k hf
structure yce (r:Receiver) (c:Chunk) (n:Int):Prop where
 kind:c.kind=1
 low:0<=c.stream
 high:c.stream<r.zbq.length
 zfk:r.cum<n
 fresh:has r.zau n=false
 room:n=r.cum+1\/(tot r.pieces:Int)+c.data.length<=400
def put (r:Receiver) (c:Chunk):Receiver :=
 {r with pieces:=r.pieces++[⟨zdh r.cum c.tag,c⟩],cum:=(up (add r.zau (zdh r.cum c.tag)) r.cum).1,zau:=(up (add r.zau (zdh r.cum c.tag)) r.cum).2}
instance xif (r:Receiver) (c:Chunk) (n:Int):Decidable (yce r c n) :=
 decidable_of_iff (c.kind=1/\0<=c.stream/\c.stream<r.zbq.length/\r.cum<n/\has r.zau n=false/\(n=r.cum+1\/(tot r.pieces:Int)+c.data.length<=400)) ⟨fun ⟨a,b,d,e,f,g⟩=>⟨a,b,d,e,f,g⟩,fun ⟨a,b,d,e,f,g⟩=>⟨a,b,d,e,f,g⟩⟩
def data (r:Receiver) (c:Chunk):Receiver:=if yce r c (zdh r.cum c.tag) then (if c.ordered then turns (put r c) c.stream.toNat else (dlv (put r c) c.stream c.mid false).1) else r
structure xih (r:Receiver) (c:Chunk):Prop where
 fit:Fit r
 zlc:zlc r.zau
 hi:∀ s∈r.zau,s.hi<=2 ^ 39
 cum1:-(2 ^ 39)<=r.cum
 cum2:r.cum<=2 ^ 39
 zbq:∀ t∈r.zbq,-(2 ^ 59)<t/\t<2 ^ 59
 data:c.data.length<2 ^ 21
 more:tot r.pieces<2 ^ 21
 many:r.pieces.length<2 ^ 21
theorem xan {l:List Span} {n M:Int} (h:Ser.zlc l) (h1:-9223372036854775808<=n) (h2:n<=9223372036854775807) (hl:∀ s∈l,s.hi<=M) (hn:n<=M):∀ s∈add l n,s.hi<=M:=by
 obtain ⟨r1,r2⟩:=yjo h h1 h2;intro s hs;have h3:=(zix r1 s hs).1;have h4:has (add l n) s.hi=true:=yhs.2 ⟨s,hs,h3,zy99 _⟩;rw [r2,zy105] at h4;rcases h4 with h4 | h4
 . obtain ⟨t,ht,_,h5⟩:=yhs.1 h4
   have:=hl t ht;omega
 . have:s.hi=n:=by simpa using h4
   omega
theorem yjn (l:List Span) (n:Int):(add l n).length<=l.length+1:=by
 unfold add;split
 . omega
 . have h1:(zxc n (below l n)).1.length<=(below l n).length:=by
    unfold zxc;split
    . split
      . simp
      . exact zy20 _
    . exact zy20 _
   have h2:(zss n (zfk l n)).2.length<=(zfk l n).length:=by
    cases zfk l n with
    | nil=>exact zy20 _
    | cons t r=>simp only [zss];split<;>simp
   have h3:l.length=(below l n).length+(zfk l n).length:=by
    conv=>lhs;rw [split l n]
    exact zy6
   simp only [zy6,zy5];omega
theorem yvg (r:Receiver) (c:Chunk) (hf:xih r c):zao Tryz.prog 152 [r.hv,c.hv] zae (xib (data r c) 0 1 2 3) (lk .free (yzn (data r c) 0 1 2 3 [])):=by
 obtain ⟨h1,h2,h3,h4,h5,h6,h7,h8,h9⟩:=hf;obtain ⟨n1,n2,n3⟩:=zlt (a:=r.cum) (t:=c.tag) zz0 zz0;generalize hD:data r c=D;refine zan mixed Tryz.func152 zz4 [] (fun _=>.inl rfl) ?_;(conv=>whnf)
 (refine zas [(0,910),(1,911),(2,912),(3,913)]  ?_;(conv=>whnf);refine dO (zdc r h1) ?_)
 (refine cL ?_;refine dL (zjz r.cum c.tag) ?_)
 have no:¬ yce r c (zdh r.cum c.tag)->D=r:=fun h=>by rw [<- hD,data,zy0 h]
 by_cases c1:c.kind=1
 case neg =>
  obtain rfl:=no fun h=>c1 h.1
  refine zai zz52 ?_;conv=>whnf
  exact yy32
 refine zag (by simp [c1]) (zw ?_);by_cases c2:c.stream<0
 . obtain rfl:=no fun h=>by have:=h.2;omega
   refine zai zz46 ?_;conv=>whnf
   exact yy32
 refine zag zz46 (zw ?_);by_cases c3:c.stream>=r.zbq.length
 . obtain rfl:=no fun h=>by have:=h.3;omega
   refine zai (by simpa using c3) (zw ?_);exact yy32
 refine zag (by simpa using c3) (zw ?_);by_cases c4:zdh r.cum c.tag<=r.cum
 . obtain rfl:=no fun h=>by have:=h.4;omega
   refine zai (by simpa using c4) (zw ?_);exact yy32
 refine zag (by simpa using c4) (zw ?_)
 (refine cL ?_;refine dL (ynd r.zau (zdh r.cum c.tag) (by have:=h1.zau;omega)) ?_)
 cases c5:has r.zau (zdh r.cum c.tag) with
 | true =>
  obtain rfl:=no fun h=>by have:=h.5;rw [c5] at this;cases this
  (conv=>whnf);exact yy32
 | false =>
 (conv=>whnf);refine sF ?_;have g1:=h1.zau;have g2:=h1.log;have rest:yce r c (zdh r.cum c.tag)->D=if c.ordered then turns (put r c) c.stream.toNat else (dlv (put r c) c.stream c.mid false).1:=fun h=>by rw [<- hD,data,zy1 h]
 have xaw:tot (put r c).pieces=tot r.pieces+c.data.length:=by show tot (r.pieces++[_])=_;rw [zvz,zet];rfl
 have hpl:(put r c).pieces.length=r.pieces.length+1:=by show (r.pieces++[_]).length=_;simp
 have hadd:=xan (n:=zdh r.cum c.tag) (M:=1099511627776) h2 zz0 zz0 (fun s hs=>by have:=h3 s hs;omega) zz0;have hal:=yjn r.zau (zdh r.cum c.tag);by_cases c6:zdh r.cum c.tag=r.cum+1
 case' pos =>
  have ok:yce r c (zdh r.cum c.tag):=⟨c1,by omega,by omega,by omega,c5,.inl c6⟩
  refine zag (by simpa using c6) ?_;conv=>whnf
  ((refine zbf ?_ ?_;(· kernel_rfl);conv=>whnf);try refine sG ?_)
 case' neg =>
  refine zai (by simpa using c6) (zw ?_)
  (refine cL ?_;refine dL (ygc r zz0 zz0) ?_)
  refine sF ?_;by_cases c7:(tot r.pieces:Int)+c.data.length>400
  case pos =>
   obtain rfl:=no fun h=>by have:=h.6;omega
   refine sD ?_;refine zai (by simpa using c7) (zw ?_);exact yy74
  have ok:yce r c (zdh r.cum c.tag):=⟨c1,by omega,by omega,by omega,c5,.inr zz0⟩
  refine sD ?_;refine zag (by simpa using c7) (zw ?_)
  try refine sG ?_
 all_goals (
  have rest:=rest ok
  (refine zas [(0,66)]  ?_;(conv=>whnf);refine dO (Cl.zcs c.data zz0) ?_)
  refine zaa (c:=((r.pieces.map zay.row).length+1)*136<=140737488355328) zz3 (zw ?_);refine sD ?_
  (refine zas [(0,88)]  ?_;(conv=>whnf);refine dO (yzv r.zau (zdh r.cum c.tag) h2 zz0 zz0 zz0) ?_)
  (refine zas [(0,92)]  ?_;(conv=>whnf);refine dO (yvx (add r.zau (zdh r.cum c.tag)) r.cum hadd zz0 zz0 zz0) ?_)
  refine sD ?_;obtain ⟨k,hk⟩:∃ k:Nat,c.stream=k:=⟨c.stream.toNat,by omega⟩
  have hkl:k<r.zbq.length:=by omega
  have htk:(put r c).zbq[k]?.getD 0=r.zbq[k]:=by show r.zbq[k]?.getD 0=_;rw [zy3 hkl];rfl
  have htb:=h6 _ (zy82 hkl);refine zah (fun ho=>?_) (fun ho=>?_)
  . rw [zy1 ho,show c.stream.toNat=k by omega] at rest
    subst rest;(conv=>whnf)
    (refine zac [] [(1000,10),(1001,92),(1002,78),(1003,912),(1004,913)] [(0,920),(1,921),(2,922),(3,923)] ?_;(conv=>whnf);refine dG (zvv (put r c) k _ hk ⟨by omega,by omega,by show r.log.length+_<_;omega,hkl,by rw [htk];omega,by rw [htk];omega⟩) ?_ ⟨rfl,rfl,rfl,⟨zz1,⟨zz1,⟨⟨rfl,_,rfl,.inl ⟨rfl,zca (f:=zay.row) (x:=⟨zdh r.cum c.tag,c⟩) rfl rfl⟩⟩,⟨zz1,⟨zz1,trivial⟩⟩⟩⟩⟩,⟨⟨rfl,rfl⟩,⟨⟨rfl,rfl⟩,⟨⟨rfl,rfl⟩,⟨⟨rfl,rfl⟩,trivial⟩⟩⟩⟩,rfl,rfl,rfl⟩)
    (exact zbz [(0,some 920),(1,some 921),(2,some 922),(3,some 923)])
  . rw [zy0 (by rw [ho];decide)] at rest
    subst rest;(conv=>whnf)
    (refine zac [] [(1000,10),(1001,92),(1002,78),(1003,912),(1004,913)] [(0,920),(1,921),(2,922),(3,923)] ?_;(conv=>whnf);refine dG (zma (put r c) c.stream c.mid false zz0 zz0 (by show r.log.length<_;omega)) ?_ ⟨rfl,rfl,rfl,⟨zz1,⟨zz1,⟨⟨rfl,_,rfl,.inl ⟨rfl,zca (f:=zay.row) (x:=⟨zdh r.cum c.tag,c⟩) rfl rfl⟩⟩,⟨zz1,⟨zz1,trivial⟩⟩⟩⟩⟩,⟨⟨rfl,rfl⟩,⟨⟨rfl,rfl⟩,⟨⟨rfl,rfl⟩,⟨⟨rfl,rfl⟩,trivial⟩⟩⟩⟩,rfl,rfl,rfl⟩)
    (exact zbz [(0,some 920),(1,some 921),(2,some 922),(3,some 923)]))
def shift (c:Int) (s:Span):Span:=⟨s.lo-c,s.hi-c⟩
def zna (r:Receiver):Chunk:=⟨2,tag r.cum,0,0,0,false,false,[],(r.zau.take 6).map (shift r.cum),(if 0>400-(tot r.pieces:Int) then 0 else 400-(tot r.pieces:Int)),[]⟩
theorem yqa {α:Type} (A:List α) (x:α) (f:α->α):((A++[x]).take 6).map f=if A.length<6 then (A.take 6).map f++[f x] else (A.take 6).map f:=by
 split
 . rename_i h
   rw [zy35 (by simp;omega),zy35 (by omega)];simp
 . rename_i h
   rw [zy71 (by omega)]
abbrev xhp (r:Receiver) (v:HV):List HV:=[i64 2,i64 (zna r).tag,i64 0,i64 0,i64 0,zbl false,zbl false,zgm,v,i64 (zna r).room,zgm]
theorem yvq (r:Receiver) (h1:r.zau.length<2 ^ 40) (h2:r.pieces.length<2 ^ 40) (h3:tot r.pieces<2 ^ 60) (hc:-(2 ^ 60)<=r.cum) (hc2:r.cum<=2 ^ 60) (hsp:∀ s∈r.zau,-(2 ^ 61)<=s.lo/\s.lo<=2 ^ 61/\-(2 ^ 61)<=s.hi/\s.hi<=2 ^ 61) :
 zao Tryz.prog 154 [r.hv] zae (.agg (xhp r (.own 0))) (lk .free [(0,xhk (zna r).zau)]):=by
 refine zan mixed Tryz.func154 zz4 [] (fun _=>.inl rfl) ?_;(conv=>whnf)
 (refine cL ?_;refine dL (zcv r.cum) ?_)
 (refine cL ?_;refine dL (ygc r zz0 zz0) ?_)
 refine sF ?_;refine sD ?_;refine ⟨{x:List Span×List Span // r.zau=x.1++x.2},fun | ⟨(A,B),_⟩=>hs 43 [(1,.ptr 1 0),(2,.ptr 2 0),(3,.ptr 3 0),(15,zau r.zau),(16,i64 r.zau.length),(17,i64 A.length)] [(1,.live (.cells 37 (yzo r (zau r.zau) (pieces r.pieces) (.p (.sl 1 (r.zbq.map fun n=>[pi n]))) (.p (.sl 4 (r.log.map zcp.row)))))),(2,.live (.cells 61 [i64 0,i64 0,i64 0,i64 0,i64 0,zbl false,zbl false,zgm,zgm,i64 0,zgm])),(3,.live (.cells 61 (xhp r (.own 900)))),(900,xhk ((A.take 6).map (shift r.cum)))],fun x=>x.1.2.length,⟨([],r.zau),rfl⟩,?_,?_⟩
 . exact (zdi [(1,some 1),(2,some 2),(3,some 3),(900,none)])
 rintro ⟨⟨A,B⟩,h⟩;dsimp only at h;have hl:r.zau.length=A.length+B.length:=by rw [h];simp
 (conv=>whnf);cases B with
 | cons p B =>
  have hp:=hsp p zz66;rw [zy5] at hl;have hq:((A.take 6).map (shift r.cum)).length=min 6 A.length:=by simp
  refine sT ?_;refine zal h rfl (zw ?_);have hsn:=yqa A p (shift r.cum);by_cases c:A.length<6
  . rw [zy1 c] at hsn
    refine sT ?_;refine sF ?_;refine sF ?_;refine zaa (c:=((((A.take 6).map (shift r.cum)).map Span.row).length+1)*16<=140737488355328) zz3 (zw ?_)
    try refine sG ?_
    refine sF ?_;refine ⟨⟨(A++[p],B),by rw [h];simp⟩,(zcu [(1,some 1),(2,some 2),(3,some 3),(900,some 39)] (by repeat' (first | exact z0 | refine z1 ?_ | refine ⟨?_,?_⟩ | ((exact zca (f:=Span.row) hsn rfl)) | exact z2))),by simp⟩
  . rw [zy0 c] at hsn
    refine sN ?_;refine sF ?_;refine ⟨⟨(A++[p],B),by rw [h];simp⟩,(zcu [(1,some 1),(2,some 2),(3,some 3),(900,some 900)] (by repeat' (first | exact z0 | refine z1 ?_ | refine ⟨?_,?_⟩ | ((exact zaq (by rw [hsn]))) | exact z2))),by simp⟩
 | nil =>
  rw [zy13] at hl;rw [zy7] at h;refine sN ?_
  (exact zdd [(0,some 900)] (by repeat' (first | exact z0 | refine z1 ?_ | refine ⟨?_,?_⟩ | ((exact zaq (by rw [<- h];rfl))) | exact z2)))
end Rcv
end Go.HL
