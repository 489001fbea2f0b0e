/- Walks, contracts and laws of the law's functions: part 4. No condition. -/
import Derived.Test.YticmofoeecjnhaaGreatQHc
open Go.Proofs
set_option maxHeartbeats 32000000
set_option maxRecDepth 100000
set_option linter.unusedSimpArgs false
theorem yy6 {P:Prop} (h:P:=by
 cases d3:old u.clock x.came x.life with
 | true =>
  (conv=>whnf);refine sD ?_
  repeat refine sG ?_
  (refine zac [] [(1000,1000),(1001,900),(1002,901),(1003,902),(1004,903),(1005,904),(1006,905),(1007,1007)] [(0,910),(1,911),(2,912),(3,913),(4,914),(5,915)] ?_;(conv=>whnf);refine dG pg ?_)
  refine sF ?_;refine hQ _ _ ?_;conv=>whnf
  rw [zid,zy1 (by rw [hdue];simp [d1,d2,d3])] at zcz kn kr;exact ⟨⟨((A++[x],B),zfn u x.id),zar k1,zcz,kn,k4.trans kr⟩,(zcx (pK8 ((900,some 910)::(901,some 911)::(902,some 912)::(903,some 913)::(904,some 914)::(905,some 915)::[(34,some 34)]))),by simp⟩
 | false =>
 (conv=>whnf);by_cases d4:x.state=3
 case neg =>
  refine zag ?_ ?_
  . simpa using d4
  (conv=>whnf);refine sD ?_
  repeat refine sG ?_
  refine sF ?_;refine hQ _ _ ?_;conv=>whnf
  rw [zid,zy0 (by rw [hdue];simp [d1,d2,d3,d4])] at zcz;exact ⟨⟨((A++[x],B),u),zar k1,zcz,k3,k4⟩,(zcx (pK8 (pJ6 [(34,some 34)]))),by simp⟩
 refine zai ?_ ?_
 . simpa using d4
 (conv=>whnf);by_cases d5:x.tries>0
 case neg =>
  refine zag ?_ ?_
  . simpa using d5
  (conv=>whnf);refine sD ?_
  repeat refine sG ?_
  refine sF ?_;refine hQ _ _ ?_;conv=>whnf
  rw [zid,zy0 (by rw [hdue];simp [d1,d2,d3,d4,d5])] at zcz;exact ⟨⟨((A++[x],B),u),zar k1,zcz,k3,k4⟩,(zcx (pK8 (pJ6 [(34,some 34)]))),by simp⟩
 refine zai ?_ ?_
 . simpa using d5
 (conv=>whnf);refine sD ?_;by_cases d6:x.times>x.tries
 case neg =>
  refine zag ?_ ?_
  . simpa using d6
  conv=>whnf
  repeat refine sG ?_
  refine sF ?_;refine hQ _ _ ?_;conv=>whnf
  rw [zid,zy0 (by rw [hdue];simp [d1,d2,d3,d4,d5,d6])] at zcz;exact ⟨⟨((A++[x],B),u),zar k1,zcz,k3,k4⟩,(zcx (pK8 (pJ6 [(34,some 34)]))),by simp⟩
 refine zai ?_ ?_
 . simpa using d6
 conv=>whnf
 repeat refine sG ?_
 (refine zac [] [(1000,1000),(1001,900),(1002,901),(1003,902),(1004,903),(1005,904),(1006,905),(1007,1007)] [(0,910),(1,911),(2,912),(3,913),(4,914),(5,915)] ?_;(conv=>whnf);refine dG pg ?_)
 refine sF ?_;refine hQ _ _ ?_;conv=>whnf
 rw [zid,zy1 (by rw [hdue];simp [d1,d2,d3,d4,d5,d6])] at zcz kn kr;exact ⟨⟨((A++[x],B),zfn u x.id),zar k1,zcz,kn,k4.trans kr⟩,(zcx (pK8 ((900,some 910)::(901,some 911)::(902,some 912)::(903,some 913)::(904,some 914)::(905,some 915)::[(34,some 34)]))),by simp⟩):P:=h
theorem yy10 {P:Prop} (h:P:=by
 exact ⟨⟨((A++[x],B),u),zar k1,zcz,k3,k4⟩,(zcx (pK8 (pJ6 [(34,some 34)]))),by simp⟩):P:=h
theorem yy19 {P:Prop} (h:P:=by
 rw [<- hid] at pg;(conv=>whnf)
 repeat refine sG ?_
 (refine zac [] [(1000,1000),(1001,900),(1002,901),(1003,902),(1004,903),(1005,904),(1006,905),(1007,1007)] [(0,910),(1,911),(2,912),(3,913),(4,914),(5,915)] ?_;(conv=>whnf);refine dG pg ?_)
 refine sF ?_;refine hQ _ _ ?_;conv=>whnf
 exact ⟨⟨((A++[m],B),zfn t m.id),zar k1,zcz,kn,k4.trans kr⟩,(zcx (pK8 ((900,some 910)::(901,some 911)::(902,some 912)::(903,some 913)::(904,some 914)::(905,some 915)::[(11,some 11)]))),by simp⟩):P:=h
theorem yy49 {P:Prop} (h:P:=by
 have hz:=zcw k1;rw [zy8] at k1;rw [<- k1] at k2;refine sN ?_;refine hQ _ _ ?_;conv=>whnf
 have hu:u=E:=by rw [<- k2,hE2]
 rw [<- hu]
 (exact zby (pK8 [(0,some 900),(1,some 901),(2,some 902),(3,some 903),(4,some 904),(5,some 905)]))):P:=h
theorem yy59 {P:Prop} (h:P:=by
 rw [zkx,zy0 (by rw [ho];decide)] at zcz;(conv=>whnf)
 repeat refine sG ?_
 refine sF ?_;refine hQ _ _ ?_;conv=>whnf
 exact ⟨⟨((A++[m],B),t),zar k1,zcz,k3,k4⟩,(zcx (pK8 (pJ6 [(11,some 11)]))),by simp⟩):P:=h
theorem yy82 {P:Prop} (h:P:=by
 refine zag ?_ ?_
 . simp [c1]
 (conv=>whnf);refine zai ?_ ?_
 . simp [c2]
 conv=>whnf
 repeat refine sG ?_
 (exact zby (pK8 [(0,none),(1,none)]))):P:=h
theorem yy101 {P:Prop} (h:P:=by
 refine zai ?_ ?_
 . simp [c1]
 conv=>whnf
 repeat refine sG ?_
 (exact zby (pK8 [(0,none),(1,none)]))):P:=h
theorem yy40 {P:Prop} (h:P:=by
 refine zag ?_ ?_
 . simpa using d1
 conv=>whnf
 repeat refine sG ?_
 refine sF ?_;exact ⟨⟨(i+1,t,a',b'),by dsimp only;omega,by rw [hst,hno fun h=>d1 h.1],k3,k4,by dsimp only;omega⟩,(zbu (zhf [(900,some 900),(901,some 901)]) zz2),by dsimp only;omega⟩):P:=h
theorem yy41 {P:Prop} (h:P:=by
 refine zag ?_ ?_
 . simpa using d2
 conv=>whnf
 repeat refine sG ?_
 refine sF ?_;exact ⟨⟨(i+1,t,a',b'),by dsimp only;omega,by rw [hst,hno fun h=>d2 h.2],k3,k4,by dsimp only;omega⟩,(zbu (zhf [(900,some 900),(901,some 901)]) zz2),by dsimp only;omega⟩):P:=h
theorem yy86 {P:Prop} (h:P:=by
 have hin:i=s.out.length:=by omega
 subst hin;refine sN ?_;rw [k2] at hag;subst hag
 (exact zby (zhf [(0,some 900),(1,some 901)]))):P:=h
theorem yy2 {P:Prop} (h:P:=by
 refine zaj hm rfl (zw ?_);refine zat (z:=m.sent+many s m) hWs (zw ?_);refine zaj hm rfl (zw ?_);refine sD ?_;have hm':(zhx s k m).queue[k]?=some {m with mid:=zcd s m}:=by show (s.queue.set k _)[k]?=_;rw [zy27 hkl]
 have hmr:(s.queue.map zaf.row)[k]?=some m.row:=by rw [zy10,hm];rfl
 (refine cL ?_;refine dL (zcv s.next) ?_)
 refine zaj hm rfl (zw ?_)
 (refine zac [] [(1000,1000),(1001,1001),(1002,1002),(1003,1003),(1004,1004),(1005,1005),(1006,1006),(1007,1007),(1008,1008)] [] ?_;(conv=>whnf);refine dG (yft s a k m hm mf) ?_)
 (refine cL ?_;refine dL (zcv (zcd s m)) ?_)
 refine zaj hm' rfl (zw ?_);refine zaj hm' rfl (zw ?_);refine zaj hm' rfl (zw ?_);refine zaj hm' rfl (zw ?_);refine zaj hm' rfl (zw ?_);refine zat (z:=m.sent+many s m) hWs (zw ?_);refine zaa (c:=0<=m.sent/\m.sent<=m.sent+many s m/\m.sent+many s m<=((m.message.data.map zdu).length:Int)) ⟨ms,by omega,by rw [zy2];omega⟩ (zw ?_);refine zjd (o':=m.sent.toNat) (n':=(many s m).toNat) rfl (show (m.sent+many s m-m.sent).toNat=(many s m).toNat by rw [show m.sent+many s m-m.sent=many s m by omega]) ?_;refine zlj (f:=zdu) (l:=m.message.data) (o:=m.sent.toNat) (n:=(many s m).toNat) zz0 ?_;(conv=>whnf)
 (refine zas [(0,150)]  ?_;(conv=>whnf);refine dO (Cl.zct ((m.message.data.drop m.sent.toNat).take (many s m).toNat) zz3) ?_)
 refine zin [4,10,18,24,29,33,37] ?_ ?_ ?_
 . kernel_rfl
 . refine ⟨?_,?_,?_,?_,?_,?_,?_,trivial⟩
   all_goals
    refine And.intro trivial ?_;refine And.intro trivial ?_;refine And.intro ?_ trivial;(conv=>whnf);refine And.intro ?_ ?_
    . conv=>whnf
      all_goals first | rfl | exact zaj hm rfl rfl
    refine And.intro ?_ trivial;(conv=>whnf)
    all_goals first | rfl | exact zaj hm' rfl rfl
 (conv=>whnf);refine zaj hm' rfl (zw ?_)
 (refine zas [(0,163)]  ?_;(conv=>whnf);refine dO (zju s.sched {m with mid:=zcd s m} (many s m) (ovr s m) zz0 mf.lo mh) ?_)
 refine sD ?_;refine zaj hm' rfl (zw ?_);refine zaj hm' rfl (zw ?_);refine zaj hm' rfl (zw ?_);refine zaj hm' rfl (zw ?_);refine zaa (c:=((s.out.map zbr.row).length+1)*200<=140737488355328) zz15 (zw ?_);refine sD ?_;refine sR ?_;refine zaj hm' rfl (zw ?_);refine zat (z:=m.sent+many s m) hWs (zw ?_);refine zaj hm' rfl (zw ?_);refine zbt rfl zz41 (zw ?_);refine sR ?_;refine zbt rfl zz41 (zw ?_);refine zbl (z':=(s.out.length:Int)) ?_ ?_
 . show W ((((zhx s k m).out.map zbr.row++[_]).length:Int)-1)=_
   rw [zy6,zy2,show (zhx s k m).out=s.out from rfl,zbh (by simp only [zy5,zy14];omega) (by simp only [zy5,zy14];omega)];simp only [zy5,zy14];omega
 (conv=>whnf);refine zaa zz9 (zw ?_)
 (refine zac [] [(1000,1000),(1001,1001),(1002,163),(1003,199),(1004,1004),(1005,1005),(1006,1006),(1007,1007),(1008,1008)] [(0,920)] ?_;(conv=>whnf);refine dG (znu (s2 s k m) a s.out.length (x0 s m) w zz77 hw zz0) ?_ ⟨rfl,rfl,rfl,⟨zz1,⟨⟨rfl,_,rfl,.inl ⟨rfl,you⟩⟩,⟨zz1,⟨⟨rfl,_,rfl,.inl ⟨rfl,(zca (f:=zbr.row) (x:=x0 s m) rfl rfl)⟩⟩,⟨zz1,⟨zz1,⟨zz1,⟨zz1,⟨zz1,trivial⟩⟩⟩⟩⟩⟩⟩⟩⟩,⟨⟨rfl,rfl⟩,trivial⟩,rfl,rfl,rfl⟩)
 refine sD ?_;cases hov:ovr s m with
 | true =>
  refine zai ?_ ?_
  . exact hov
  conv=>whnf
  repeat refine sG ?_
  refine zbl (z':=((k+1:Nat):Int)) ?_ ?_
  . show W ((k:Int)+1)=_
    rw [zbh (by omega) (by omega)];push_cast;rfl
  conv=>whnf
  (refine zac [] [(1000,1001)] [(0,930)] ?_;(conv=>whnf);refine dG (xfh (s.queue.set k (m2 s m)) k (k+1) zz0 zz3 zz3) ?_)
  rw [zff hc0 hw rfl,zy1 hov] at hG;subst hG
  (exact zdc (pK9 [(0,some 930),(1,some 163),(2,some 199),(3,some 1004),(4,some 1005),(5,some 1006),(6,some 920)]) zz12)
 | false =>
  refine zag ?_ ?_
  . exact hov
  conv=>whnf
  repeat refine sG ?_
  rw [zff hc0 hw rfl,zy0 (by rw [hov];decide)] at hG;subst hG
  (exact zby (pK9 [(0,some 1001),(1,some 163),(2,some 199),(3,some 1004),(4,some 1005),(5,some 1006),(6,some 920)]))):P:=h
theorem yy20 {P:Prop} (h:P:=by
 subst hG
 repeat refine sG ?_
 (exact zby (pK9 [(0,some 1001),(1,some 1002),(2,some 1003),(3,some 1004),(4,some 1005),(5,some 1006),(6,some 1008)]))):P:=h
theorem yy0 {P:Prop} (h:P:=by
 refine zaj hm rfl (zw ?_);refine zat (z:=m.sent+many s m) hWs (zw ?_);refine zaj hm rfl (zw ?_);refine sD ?_;have hm':(zhx s k m).queue[k]?=some {m with mid:=zcd s m}:=by show (s.queue.set k _)[k]?=_;rw [zy27 hkl]
 have hmr:(s.queue.map zaf.row)[k]?=some m.row:=by rw [zy10,hm];rfl
 (refine cL ?_;refine dL (zcv s.next) ?_)
 refine zaj hm rfl (zw ?_)
 (refine zac [] [(1000,1000),(1001,1001),(1002,1002),(1003,1003),(1004,1004),(1005,1005),(1006,1006),(1007,1007),(1008,1008),(1009,1009)] [] ?_;(conv=>whnf);refine dG (zpa s a b k m hm mf) ?_)
 (refine cL ?_;refine dL (zcv (zcd s m)) ?_)
 refine zaj hm' rfl (zw ?_);refine zaj hm' rfl (zw ?_);refine zaj hm' rfl (zw ?_);refine zaj hm' rfl (zw ?_);refine zaj hm' rfl (zw ?_);refine zat (z:=m.sent+many s m) hWs (zw ?_);refine zaa (c:=0<=m.sent/\m.sent<=m.sent+many s m/\m.sent+many s m<=((m.message.data.map zdu).length:Int)) ⟨ms,by omega,by rw [zy2];omega⟩ (zw ?_);refine zjd (o':=m.sent.toNat) (n':=(many s m).toNat) rfl (show (m.sent+many s m-m.sent).toNat=(many s m).toNat by rw [show m.sent+many s m-m.sent=many s m by omega]) ?_;refine zlj (f:=zdu) (l:=m.message.data) (o:=m.sent.toNat) (n:=(many s m).toNat) zz0 ?_;(conv=>whnf)
 (refine zas [(0,150)]  ?_;(conv=>whnf);refine dO (Cl.zct ((m.message.data.drop m.sent.toNat).take (many s m).toNat) zz3) ?_)
 refine zin [4,10,18,24,29,33,37] ?_ ?_ ?_
 . kernel_rfl
 . refine ⟨?_,?_,?_,?_,?_,?_,?_,trivial⟩
   all_goals
    refine And.intro trivial ?_;refine And.intro trivial ?_;refine And.intro ?_ trivial;(conv=>whnf);refine And.intro ?_ ?_
    . conv=>whnf
      all_goals first | rfl | exact zaj hm rfl rfl
    refine And.intro ?_ trivial;(conv=>whnf)
    all_goals first | rfl | exact zaj hm' rfl rfl
 (conv=>whnf);refine zaj hm' rfl (zw ?_)
 (refine zas [(0,163)]  ?_;(conv=>whnf);refine dO (zju s.sched {m with mid:=zcd s m} (many s m) (ovr s m) zz0 mf.lo mh) ?_)
 refine sD ?_;refine zaj hm' rfl (zw ?_);refine zaj hm' rfl (zw ?_);refine zaj hm' rfl (zw ?_);refine zaj hm' rfl (zw ?_);refine zaa (c:=((s.out.map zbr.row).length+1)*200<=140737488355328) zz15 (zw ?_);refine sD ?_;refine sR ?_;refine zaj hm' rfl (zw ?_);refine zat (z:=m.sent+many s m) hWs (zw ?_);refine zaj hm' rfl (zw ?_);refine zbt rfl zz41 (zw ?_);refine sR ?_;refine zbt rfl zz41 (zw ?_);refine zbl (z':=(s.out.length:Int)) ?_ ?_
 . show W ((((zhx s k m).out.map zbr.row++[_]).length:Int)-1)=_
   rw [zy6,zy2,show (zhx s k m).out=s.out from rfl,zbh (by simp only [zy5,zy14];omega) (by simp only [zy5,zy14];omega)];simp only [zy5,zy14];omega
 (conv=>whnf);refine zaa zz9 (zw ?_)
 (refine zac [] [(1000,1000),(1001,1001),(1002,163),(1003,199),(1004,1004),(1005,1005),(1006,1006),(1007,1007),(1008,1008),(1009,1009)] [(0,920)] ?_;(conv=>whnf);refine dG (znv (s2 s k m) a b s.out.length (x0 s m) w zz77 hw zz0) ?_ ⟨rfl,rfl,rfl,⟨zz1,⟨⟨rfl,_,rfl,.inl ⟨rfl,you⟩⟩,⟨zz1,⟨⟨rfl,_,rfl,.inl ⟨rfl,(zca (f:=zbr.row) (x:=x0 s m) rfl rfl)⟩⟩,⟨zz1,⟨zz1,⟨zz1,⟨zz1,⟨zz1,⟨zz1,trivial⟩⟩⟩⟩⟩⟩⟩⟩⟩⟩,⟨⟨rfl,rfl⟩,trivial⟩,rfl,rfl,rfl⟩)
 refine sD ?_;cases hov:ovr s m with
 | true =>
  refine zai ?_ ?_
  . exact hov
  conv=>whnf
  repeat refine sG ?_
  refine zbl (z':=((k+1:Nat):Int)) ?_ ?_
  . show W ((k:Int)+1)=_
    rw [zbh (by omega) (by omega)];push_cast;rfl
  conv=>whnf
  (refine zac [] [(1000,1001)] [(0,930)] ?_;(conv=>whnf);refine dG (xfh (s.queue.set k (m2 s m)) k (k+1) zz0 zz3 zz3) ?_)
  rw [zff hc0 hw rfl,zy1 hov] at hG;subst hG
  (exact zdc (zhf [(0,some 930),(1,some 163),(2,some 199),(3,some 1004),(4,some 1005),(5,some 1006),(6,some 920),(7,some 1009)]) zz12)
 | false =>
  refine zag ?_ ?_
  . exact hov
  conv=>whnf
  repeat refine sG ?_
  rw [zff hc0 hw rfl,zy0 (by rw [hov];decide)] at hG;subst hG
  (exact zby (zhf [(0,some 1001),(1,some 163),(2,some 199),(3,some 1004),(4,some 1005),(5,some 1006),(6,some 920),(7,some 1009)]))):P:=h
theorem yy8 {P:Prop} (h:P:=by
 subst hG
 repeat refine sG ?_
 (exact zby (zhf [(0,some 1001),(1,some 1002),(2,some 1003),(3,some 1004),(4,some 1005),(5,some 1006),(6,some 1008),(7,some 1009)]))):P:=h
theorem yy1 {P:Prop} (h:P:=by
 refine zaj hm rfl (zw ?_);refine zat (z:=m.sent+many s m) hWs (zw ?_);refine zaj hm rfl (zw ?_);refine sD ?_;have hm':(zhx s k m).queue[k]?=some {m with mid:=zcd s m}:=by show (s.queue.set k _)[k]?=_;rw [zy27 hkl]
 have hmr:(s.queue.map zaf.row)[k]?=some m.row:=by rw [zy10,hm];rfl
 (refine cL ?_;refine dL (zcv s.next) ?_)
 refine zaj hm rfl (zw ?_)
 (refine zac [] [(1000,1000),(1001,1001),(1002,1002),(1003,1003),(1004,1004),(1005,1005),(1006,1006),(1007,1007),(1008,1008),(1009,1009)] [] ?_;(conv=>whnf);refine dG (zpa s a b k m hm mf) ?_)
 (refine cL ?_;refine dL (zcv (zcd s m)) ?_)
 refine zaj hm' rfl (zw ?_);refine zaj hm' rfl (zw ?_);refine zaj hm' rfl (zw ?_);refine zaj hm' rfl (zw ?_);refine zaj hm' rfl (zw ?_);refine zat (z:=m.sent+many s m) hWs (zw ?_);refine zaa (c:=0<=m.sent/\m.sent<=m.sent+many s m/\m.sent+many s m<=((m.message.data.map zdu).length:Int)) ⟨ms,by omega,by rw [zy2];omega⟩ (zw ?_);refine zjd (o':=m.sent.toNat) (n':=(many s m).toNat) rfl (show (m.sent+many s m-m.sent).toNat=(many s m).toNat by rw [show m.sent+many s m-m.sent=many s m by omega]) ?_;refine zlj (f:=zdu) (l:=m.message.data) (o:=m.sent.toNat) (n:=(many s m).toNat) zz0 ?_;(conv=>whnf)
 (refine zas [(0,150)]  ?_;(conv=>whnf);refine dO (Cl.zct ((m.message.data.drop m.sent.toNat).take (many s m).toNat) zz3) ?_)
 refine zin [4,10,18,24,29,33,37] ?_ ?_ ?_
 . kernel_rfl
 . refine ⟨?_,?_,?_,?_,?_,?_,?_,trivial⟩
   all_goals
    refine And.intro trivial ?_;refine And.intro trivial ?_;refine And.intro ?_ trivial;(conv=>whnf);refine And.intro ?_ ?_
    . conv=>whnf
      all_goals first | rfl | exact zaj hm rfl rfl
    refine And.intro ?_ trivial;(conv=>whnf)
    all_goals first | rfl | exact zaj hm' rfl rfl
 (conv=>whnf);refine zaj hm' rfl (zw ?_)
 (refine zas [(0,163)]  ?_;(conv=>whnf);refine dO (zju s.sched {m with mid:=zcd s m} (many s m) (ovr s m) zz0 mf.lo mh) ?_)
 refine sD ?_;refine zaj hm' rfl (zw ?_);refine zaj hm' rfl (zw ?_);refine zaj hm' rfl (zw ?_);refine zaj hm' rfl (zw ?_);refine zaa (c:=((s.out.map zbr.row).length+1)*200<=140737488355328) zz15 (zw ?_);refine sD ?_;refine sR ?_;refine zaj hm' rfl (zw ?_);refine zat (z:=m.sent+many s m) hWs (zw ?_);refine zaj hm' rfl (zw ?_);refine zbt rfl zz41 (zw ?_);refine sR ?_;refine zbt rfl zz41 (zw ?_);refine zbl (z':=(s.out.length:Int)) ?_ ?_
 . show W ((((zhx s k m).out.map zbr.row++[_]).length:Int)-1)=_
   rw [zy6,zy2,show (zhx s k m).out=s.out from rfl,zbh (by simp only [zy5,zy14];omega) (by simp only [zy5,zy14];omega)];simp only [zy5,zy14];omega
 (conv=>whnf);refine zaa zz9 (zw ?_)
 (refine zac [] [(1000,1000),(1001,1001),(1002,163),(1003,199),(1004,1004),(1005,1005),(1006,1006),(1007,1007),(1008,1008),(1009,1009)] [(0,920)] ?_;(conv=>whnf);refine dG (znw (s2 s k m) a b s.out.length (x0 s m) w zz77 hw zz0) ?_ ⟨rfl,rfl,rfl,⟨zz1,⟨⟨rfl,_,rfl,.inl ⟨rfl,you⟩⟩,⟨zz1,⟨⟨rfl,_,rfl,.inl ⟨rfl,(zca (f:=zbr.row) (x:=x0 s m) rfl rfl)⟩⟩,⟨zz1,⟨zz1,⟨zz1,⟨zz1,⟨zz1,⟨zz1,trivial⟩⟩⟩⟩⟩⟩⟩⟩⟩⟩,⟨⟨rfl,rfl⟩,trivial⟩,rfl,rfl,rfl⟩)
 refine sD ?_;cases hov:ovr s m with
 | true =>
  refine zai ?_ ?_
  . exact hov
  conv=>whnf
  repeat refine sG ?_
  refine zbl (z':=((k+1:Nat):Int)) ?_ ?_
  . show W ((k:Int)+1)=_
    rw [zbh (by omega) (by omega)];push_cast;rfl
  conv=>whnf
  (refine zac [] [(1000,1001)] [(0,930)] ?_;(conv=>whnf);refine dG (xfh (s.queue.set k (m2 s m)) k (k+1) zz0 zz3 zz3) ?_)
  rw [zff hc0 hw rfl,zy1 hov] at hG;subst hG
  (exact zdc (zhf [(0,some 930),(1,some 163),(2,some 199),(3,some 1004),(4,some 1005),(5,some 1006),(6,some 1008),(7,some 920)]) zz12)
 | false =>
  refine zag ?_ ?_
  . exact hov
  conv=>whnf
  repeat refine sG ?_
  rw [zff hc0 hw rfl,zy0 (by rw [hov];decide)] at hG;subst hG
  (exact zby (zhf [(0,some 1001),(1,some 163),(2,some 199),(3,some 1004),(4,some 1005),(5,some 1006),(6,some 1008),(7,some 920)]))):P:=h
theorem yy12 {P:Prop} (h:P:=by
 rw [zy0 ho] at hP;refine zag ?_ ?_
 . simpa using ho
 conv=>whnf
 repeat refine sG ?_
 refine zaa (c:=(0:Int)<=zce s.config.packet B/\zce s.config.packet B<=((B.map Chunk.row).length:Int)/\((B.map Chunk.row).length:Int)<=((B.map Chunk.row).length:Int)) ⟨by omega,by rw [zy2];omega,by omega⟩ (zw ?_);obtain ⟨x,B1,hx⟩:∃ x B1,B.take r=x::B1:=by
  cases hq:B.take r with
  | nil=>rw [zy108] at hq;rcases hq with hq | hq;omega;exact absurd hq hB
  | cons x B1=>exact ⟨x,B1,rfl⟩
 have hxl:B1.length+1=r:=by have:=congrArg List.length hx;simp at this;omega
 refine hQ2 _ _ (zw ?_);exact ⟨⟨((x::B1,B.drop r),n,acc),by rw [<- hx,zy25],by simp;omega,by simp;omega,by rw [<- i3,hP];simp⟩,(zbu (zhf [(900,some 900)]) zz7),by simp;omega⟩):P:=h
theorem yy15 {P:Prop} (h:P:=by
 cases hq:B.take r with
 | nil=>rw [zy108] at hq;rcases hq with hq | hq;omega;exact absurd hq hB
 | cons x B1=>exact ⟨x,B1,rfl⟩):P:=h
theorem yy46 {P:Prop} (h:P:=by
 conv=>whnf
 repeat refine sG ?_
 refine hQ2 _ _ (zw ?_);refine sF ?_;refine hQ _ _ ?_;conv=>whnf
 exact ⟨⟨(0+1,acc),by dsimp only;omega,by dsimp only;rw [zy14] at i4;omega,i3⟩,(zcx (pK9 [(900,some 900)])),by dsimp only;omega⟩):P:=h
theorem yy47 {P:Prop} (h:P:=by
 conv=>whnf
 repeat refine sG ?_
 refine hQ2 _ _ (zw ?_);refine sF ?_;refine hQ _ _ ?_;conv=>whnf
 exact ⟨⟨(0+1,acc),by dsimp only;omega,by dsimp only;rw [zy14] at i4;omega,i3⟩,(zcx (zhf [(900,some 900)])),by dsimp only;omega⟩):P:=h
theorem yy48 {P:Prop} (h:P:=by
 conv=>whnf
 repeat refine sG ?_
 refine hQ2 _ _ (zw ?_);refine sF ?_;refine hQ _ _ ?_;conv=>whnf
 exact ⟨⟨(1+1,acc),by dsimp only;omega,by dsimp only;rw [zy14] at i4;omega,i3⟩,(zcx (zhf [(900,some 900)])),by dsimp only;omega⟩):P:=h
theorem yy63 {P:Prop} (h:P:=by
 refine hQ2 _ _ (zw ?_);exact ⟨⟨((t::(A++B.take r),B.drop r),n,acc),by rw [i1];simp,by simp;omega,by simp;omega,by rw [<- i3,hP];simp⟩,(zbu (zhf [(900,some 900)]) zz6),by simp;omega⟩):P:=h
theorem yy13 {P:Prop} (h:P:=by
 refine zin [3] ?_ ?_ ?_
 . kernel_rfl
 . refine ⟨?_,trivial⟩
   refine And.intro trivial ?_;refine And.intro trivial ?_;refine And.intro ?_ trivial;(conv=>whnf);refine And.intro ?_ ?_
   . conv=>whnf
   refine And.intro ?_ trivial;(conv=>whnf)
   all_goals first | rfl | trace_state
 (conv=>whnf);refine zam [(0,some 900),(1,some 901),(2,some 902),(3,some 903),(4,some 904),(5,some 905),(6,some 970)] rfl rfl trivial rfl rfl ⟨⟨rfl,.inl ⟨900,rfl,rfl⟩⟩,⟨rfl,.inl ⟨901,rfl,rfl⟩⟩,⟨rfl,.inl ⟨902,rfl,rfl⟩⟩,⟨rfl,.inl ⟨903,rfl,?_⟩⟩,⟨rfl,.inl ⟨904,rfl,rfl⟩⟩,⟨rfl,.inl ⟨905,rfl,rfl⟩⟩,⟨rfl,.inl ⟨970,rfl,?_⟩⟩,trivial⟩
 . exact zaq (by rw [zy8,ygk,hN,h])
 . exact zaq zz79):P:=h
theorem yy25 {P:Prop} (h:P:=by
 refine sF ?_;exact ⟨⟨(A++[p],B),zar h⟩,(zcr ((2,some 2)::((16,some 16)::((14,some 14)::(pJ7 [])))) zz8),by simp⟩):P:=h
theorem yy26 {P:Prop} (h:P:=by
 refine sF ?_;exact ⟨⟨(A++[p],B),zar h⟩,(zcr ((2,some 2)::((16,some 16)::((14,some 14)::(pJ8 [])))) zz8),by simp⟩):P:=h
theorem yy65 {P:Prop} (h:P:=by
 refine zal (a:=A.map (zfz t N)) (b:=B) (s:=p) rfl zz4 (zw ?_);refine sF ?_;exact ⟨⟨(A++[p],B),zar h⟩,(zcr ((2,some 2)::((16,some 16)::((14,some 14)::(pJ7 [])))) zz10),by simp⟩):P:=h
theorem yy66 {P:Prop} (h:P:=by
 refine zal (a:=A.map (zfz t N)) (b:=B) (s:=p) rfl zz4 (zw ?_);refine sF ?_;exact ⟨⟨(A++[p],B),zar h⟩,(zcr ((2,some 2)::((16,some 16)::((14,some 14)::(pJ8 [])))) zz10),by simp⟩):P:=h
theorem yy23 {P:Prop} (h:P:=by
 refine sT ?_;refine zaa (c:=((out.map zbr.row).length+1)*200<=140737488355328) om (zw ?_);refine sF ?_;exact ⟨⟨_,hnx⟩,(zcr [(6,some 6),(900,some 900),(901,some 115),(902,some 902)] zz22),by simp⟩):P:=h
theorem yy37 {P:Prop} (h:P:=by
 (repeat' (first | refine sT ?_ | refine sN ?_))
 refine sO ?_;refine zdk s.path.toNat zz0 zz0 (zw ?_);refine sR ?_;refine sO ?_;refine zdk s.path.toNat zz0 zz0 (zw ?_);refine sD ?_;refine sN ?_;refine sF ?_;exact ⟨⟨_,hnx⟩,(zcr ((6,some 6)::(pJ3 [])) zz28),by simp⟩):P:=h
theorem yy43 {P:Prop} (h:P:=by
 (refine zas [(0,46)]  ?_;(conv=>whnf);refine dO (zdb l hl) ?_)
 exact zam [(0,some 46),(1,some 900),(2,none)] rfl rfl trivial rfl rfl ⟨⟨rfl,.inl ⟨46,rfl,rfl⟩⟩,⟨rfl,.inl ⟨900,rfl,rfl⟩⟩,⟨rfl,.inr ⟨rfl,rfl⟩⟩,trivial⟩):P:=h
theorem yy87 {P:Prop} (h:P:=by
 refine sT ?_;refine sF ?_;exact ⟨⟨(a++[s],b),zar h⟩,(zcr [(900,some 900),(901,some 901),(903,some 903)] zz37),by simp⟩):P:=h
theorem yy3 {P:Prop} (h:P:=by
 (refine zac [] [(1000,932)] [(0,960)] ?_;(conv=>whnf);refine dG (Sco.zeu t.out t.cum zz86) ?_)
 cases mv with
 | false =>
  rw [show zen false t=t from zy0 (fun h=>absurd h.1 (by decide))] at hT;subst hT;(conv=>whnf)
  (refine zac [] [(1000,5),(1001,930),(1002,931),(1003,932),(1004,933),(1005,934),(1006,935)] [(0,980),(1,981),(2,982),(3,983),(4,984),(5,985)] ?_;(conv=>whnf);refine dG (zdm t (hft)) ?_ ⟨rfl,rfl,rfl,⟨zz1,⟨zz1,⟨zz1,⟨zz1,⟨zz1,⟨zz1,⟨zz1,trivial⟩⟩⟩⟩⟩⟩⟩,⟨⟨rfl,rfl⟩,⟨⟨rfl,rfl⟩,⟨⟨rfl,rfl⟩,⟨⟨rfl,rfl⟩,⟨⟨rfl,rfl⟩,⟨⟨rfl,rfl⟩,trivial⟩⟩⟩⟩⟩⟩,rfl,rfl,rfl⟩)
  refine zam [(0,some 980),(1,some 981),(2,some 982),(3,some 983),(4,some 984),(5,some 985)] rfl rfl trivial rfl rfl ⟨⟨rfl,.inl ⟨980,rfl,rfl⟩⟩,⟨rfl,.inl ⟨981,rfl,rfl⟩⟩,⟨rfl,.inl ⟨982,rfl,rfl⟩⟩,⟨rfl,.inl ⟨983,rfl,rfl⟩⟩,⟨rfl,.inl ⟨984,rfl,rfl⟩⟩,⟨rfl,.inl ⟨985,rfl,rfl⟩⟩,trivial⟩
 | true =>
  (conv=>whnf);by_cases e1:(Sco.zdy t.out t.cum).1>t.cum
  case pos =>
   rw [show zen true t={t with forward:=true} from zy1 ⟨rfl,e1⟩] at hT;subst hT;rw [show decide ((Sco.zdy t.out t.cum).1>t.cum)=true from zy16 e1];(conv=>whnf)
   (refine zac [] [(1000,5),(1001,930),(1002,931),(1003,932),(1004,933),(1005,934),(1006,935)] [(0,980),(1,981),(2,982),(3,983),(4,984),(5,985)] ?_;(conv=>whnf);refine dG (zdm ({t with forward:=true}:zab) ((Fit.fwd hft))) ?_ ⟨rfl,rfl,rfl,⟨zz1,⟨zz1,⟨zz1,⟨zz1,⟨zz1,⟨zz1,⟨zz1,trivial⟩⟩⟩⟩⟩⟩⟩,⟨⟨rfl,rfl⟩,⟨⟨rfl,rfl⟩,⟨⟨rfl,rfl⟩,⟨⟨rfl,rfl⟩,⟨⟨rfl,rfl⟩,⟨⟨rfl,rfl⟩,trivial⟩⟩⟩⟩⟩⟩,rfl,rfl,rfl⟩)
   refine zam [(0,some 980),(1,some 981),(2,some 982),(3,some 983),(4,some 984),(5,some 985)] rfl rfl trivial rfl rfl ⟨⟨rfl,.inl ⟨980,rfl,rfl⟩⟩,⟨rfl,.inl ⟨981,rfl,rfl⟩⟩,⟨rfl,.inl ⟨982,rfl,rfl⟩⟩,⟨rfl,.inl ⟨983,rfl,rfl⟩⟩,⟨rfl,.inl ⟨984,rfl,rfl⟩⟩,⟨rfl,.inl ⟨985,rfl,rfl⟩⟩,trivial⟩
  case neg =>
   rw [show zen true t=t from zy0 (fun h=>e1 h.2)] at hT;subst hT;rw [show decide ((Sco.zdy t.out t.cum).1>t.cum)=false from zy19 e1];(conv=>whnf)
   (refine zac [] [(1000,5),(1001,930),(1002,931),(1003,932),(1004,933),(1005,934),(1006,935)] [(0,980),(1,981),(2,982),(3,983),(4,984),(5,985)] ?_;(conv=>whnf);refine dG (zdm t (hft)) ?_ ⟨rfl,rfl,rfl,⟨zz1,⟨zz1,⟨zz1,⟨zz1,⟨zz1,⟨zz1,⟨zz1,trivial⟩⟩⟩⟩⟩⟩⟩,⟨⟨rfl,rfl⟩,⟨⟨rfl,rfl⟩,⟨⟨rfl,rfl⟩,⟨⟨rfl,rfl⟩,⟨⟨rfl,rfl⟩,⟨⟨rfl,rfl⟩,trivial⟩⟩⟩⟩⟩⟩,rfl,rfl,rfl⟩)
   refine zam [(0,some 980),(1,some 981),(2,some 982),(3,some 983),(4,some 984),(5,some 985)] rfl rfl trivial rfl rfl ⟨⟨rfl,.inl ⟨980,rfl,rfl⟩⟩,⟨rfl,.inl ⟨981,rfl,rfl⟩⟩,⟨rfl,.inl ⟨982,rfl,rfl⟩⟩,⟨rfl,.inl ⟨983,rfl,rfl⟩⟩,⟨rfl,.inl ⟨984,rfl,rfl⟩⟩,⟨rfl,.inl ⟨985,rfl,rfl⟩⟩,trivial⟩):P:=h
theorem yy4 {P:Prop} (h:P:=by
 refine zam [(0,some 980),(1,some 981),(2,some 982),(3,some 983),(4,some 984),(5,some 985)] rfl rfl trivial rfl rfl ⟨⟨rfl,.inl ⟨980,rfl,rfl⟩⟩,⟨rfl,.inl ⟨981,rfl,rfl⟩⟩,⟨rfl,.inl ⟨982,rfl,rfl⟩⟩,⟨rfl,.inl ⟨983,rfl,rfl⟩⟩,⟨rfl,.inl ⟨984,rfl,rfl⟩⟩,⟨rfl,.inl ⟨985,rfl,rfl⟩⟩,trivial⟩):P:=h
theorem yy29 {P:Prop} (h:P:=by
 (conv=>whnf);exact zam [(0,some 20),(1,some 21),(2,some 22),(3,some 23),(4,some 24),(5,some 25)] rfl rfl trivial rfl rfl ⟨⟨rfl,.inl ⟨20,rfl,rfl⟩⟩,⟨rfl,.inl ⟨21,rfl,rfl⟩⟩,⟨rfl,.inl ⟨22,rfl,rfl⟩⟩,⟨rfl,.inl ⟨23,rfl,rfl⟩⟩,⟨rfl,.inl ⟨24,rfl,rfl⟩⟩,⟨rfl,.inl ⟨25,rfl,rfl⟩⟩,trivial⟩):P:=h
theorem yy81 {P:Prop} (h:P:=by
 split
 . obtain ⟨k,hk⟩:∃ k:Nat,m.id=k:=⟨m.id.toNat,by omega⟩
   rw [hk];exact ⟨yrl h zz0,by rw [zpx,zy30]⟩
 . exact ⟨h,rfl⟩):P:=h
theorem yy67 {P:Prop} (h:P:=by
 exact ⟨by rw [g2];exact q.path0,by rw [g2];exact q.path1,by rw [g3];exact q.id0,by rw [g3];exact q.id1,by rw [g4];exact q.zau,by rw [g4];exact q.zbw,by rw [g4];exact q.data⟩):P:=h
theorem yy94 {P:Prop} (h:P:=by
 try refine sG ?_
 rw [hjv];refine zam [(0,none)] rfl rfl trivial rfl rfl ⟨⟨rfl,.inr ⟨rfl,rfl⟩⟩,trivial⟩):P:=h
theorem yy98 {P:Prop} (h:P:=by
 intro hlt;have:=zy145 (yoi n) l;rw [show l.dropWhile (yoi n)=t::r from ha] at this;simp [yoi] at this;omega):P:=h
theorem yy36 {P:Prop} (h:P:=by
 refine zam [(0,some 24)] rfl rfl trivial rfl rfl ⟨⟨rfl,.inl ⟨24,rfl,rfl⟩⟩,trivial⟩):P:=h
theorem yy39 {P:Prop} (h:P:=by
 (conv=>whnf);rw [zjh,zy1 he];refine zam [(0,some 84)] rfl rfl trivial rfl rfl ⟨⟨rfl,.inl ⟨84,rfl,?_⟩⟩,trivial⟩;exact zxx zz71):P:=h
theorem yy93 {P:Prop} (h:P:=by
 subst hu;refine zam [(0,some 31)] rfl rfl trivial rfl rfl ⟨⟨rfl,.inl ⟨31,rfl,?_⟩⟩,trivial⟩;exact zxx h):P:=h
theorem yy56 {P:Prop} (h:P:=by
 (exact zby (pK5 [(0,some 910),(1,some 911),(2,some 912),(3,some 913)]))):P:=h
theorem yy76 {P:Prop} (h:P:=by
 (exact zby (pK5 [(0,some 1001),(1,some 1002),(2,some 1003),(3,some 1004)]))):P:=h
theorem yy30 {P:Prop} (h:P:=by
 refine sD ?_
 (exact zby [(0,some 910),(1,some 911),(2,some 912),(3,some 913)])):P:=h
theorem yy71 {P:Prop} (h:P:=by
 try refine sG ?_
 (exact zby [(0,some 910),(1,some 911),(2,some 912),(3,some 913)])):P:=h
namespace Go.HL
namespace Snd
open Ser
theorem ywv (id:Int) (s:zab) (m:zaf):(zfc id s m).out.length=s.out.length+(if m.id=id/\m.parts>0 then 1 else 0):=by
 unfold zfc;split<;>simp
theorem ykg (id:Int):∀ (q:List zaf) (s:zab),(q.foldl (zfc id) s).out.length+(q.filter fun m=>decide (m.id≠id)).length<=s.out.length+q.length
 | [],s=>by simp
 | m::q,s=>by
  have h1:=ywv id s m;have h2:=ykg id q (zfc id s m);rw [zy39,zy58,zy5];by_cases c:m.id=id
  . simp [c] at h1 h2 ⊢;split at h1<;>omega
  . simp [c] at h1 h2 ⊢;omega
theorem ykc (id:Int):∀ (q:List zaf) (s:zab),∀ x∈(q.foldl (zfc id) s).out,x∈s.out\/x.id=id
 | [],s,x,h=>.inl h
 | m::q,s,x,h=>by
  rcases ykc id q (zfc id s m) x h with h | h
  . unfold zfc at h
    split at h
    . rename_i c
      rcases zy17.1 h with h | h
      . exact .inl h
      . rw [zy23] at h;subst h;exact .inr c.1
    . exact .inl h
  . exact .inr h
structure yjg (s:zab):Prop where
 fit:Fit s
 sum:s.out.length+s.queue.length<2 ^ 30
 qid:∀ m∈s.queue,0<=m.id/\m.id<s.fates.length
 xid:∀ x∈s.out,0<=x.id/\x.id<s.fates.length
structure Rest (s t:zab):Prop where
 config:t.config=s.config
 clock:t.clock=s.clock
 had:t.sched.had=s.sched.had
 paths:t.paths.length=s.paths.length
 cum:t.cum=s.cum
 room:t.room=s.room
 mids:t.mids=s.mids
 fates:t.fates.length=s.fates.length
 sum:t.out.length+t.queue.length<=s.out.length+s.queue.length
theorem Rest.refl (s:zab):Rest s s:=⟨rfl,rfl,rfl,rfl,rfl,rfl,rfl,rfl,zy22 _⟩
theorem Rest.trans {a b c:zab} (h:Rest a b) (k:Rest b c):Rest a c:=⟨k.config.trans h.config,k.clock.trans h.clock,k.had.trans h.had,k.paths.trans h.paths,k.cum.trans h.cum,k.room.trans h.room,k.mids.trans h.mids,k.fates.trans h.fates,zy109 k.sum h.sum⟩
theorem zjl (s:zab) (id:Nat):Rest s (zfn s id)/\Sco.total (zfn s id).out=Sco.total s.out/\(∀ m∈(zfn s id).queue,m∈s.queue)/\(∀ x∈(zfn s id).out,x.id=id\/∃ y∈s.out,y.id=x.id):=by
 obtain ⟨o,n,h1,h2,h3⟩:=yqu s id s.queue;have hs:=ykg id s.queue {s with fates:=s.fates.set id 3};have hm:=ykc id s.queue {s with fates:=s.fates.set id 3};rw [h1] at hs hm;have hg:zfn s id=zek {(zjk s id o n) with queue:=s.queue.filter fun m=>decide (m.id≠id),sched:=if s.sched.hand=id then {s.sched with hand:=-1} else s.sched,out:=o.map (Sco.zie id),forward:=true}:=by
  show zek {(s.queue.foldl (zfc id) {s with fates:=s.fates.set id 3}) with queue:=s.queue.filter fun m=>decide (m.id≠id),sched:=if s.sched.hand=id then {s.sched with hand:=-1} else s.sched,out:=(s.queue.foldl (zfc id) {s with fates:=s.fates.set id 3}).out.map (Sco.zie id),forward:=true}=_;rw [h1];rfl
 have hid:∀ y:zbr,(Sco.zie id y).id=y.id:=fun y=>by unfold Sco.zie;split<;>rfl
 rw [hg];refine ⟨⟨rfl,rfl,?_,?_,rfl,rfl,rfl,?_,?_⟩,?_,?_,?_⟩
 . show (if s.sched.hand=id then {s.sched with hand:=-1} else s.sched:ziy).had=_;split<;>rfl
 . show (s.paths.mapIdx _).length=_;simp
 . show (s.fates.set id 3).length=_;simp
 . show (o.map (Sco.zie id)).length+_<=_
   rw [zy2];exact hs
 . show Sco.total (o.map (Sco.zie id))=_
   rw [zjm,h3]
 . intro m h;exact (zy91.1 h).1
 . intro x h
   obtain ⟨y,hy,rfl⟩:=zy28.1 h;rcases hm y hy with h | h
   . exact .inr ⟨y,h,(hid y).symm⟩
   . exact .inl ((hid y).trans h)
theorem zzk {s:zab} (h:yjg s) {id:Nat} (hid:id<s.fates.length):yjg (zfn s id):=by
 obtain ⟨r,h1,h2,h3⟩:=zjl s id;obtain ⟨⟨f1,f2,f3,f4,f5,f6,f7⟩,g2,g3,g4⟩:=h;have hs:=r.sum;have hq:(zfn s id).queue.length<=s.queue.length:=by
  have:(zfn s id).queue=s.queue.filter fun m:zaf=>decide (m.id≠(id:Int)):=rfl
  rw [this];exact zy66 _ _
 refine ⟨⟨by omega,by rw [r.had];exact f2,⟨by omega,by rw [h1];exact f3.bytes⟩,by rw [r.paths];exact f4,by rw [r.mids];exact f5,by rw [r.fates];exact f6,fun m hm=>f7 m (h2 m hm)⟩,by omega,fun m hm=>by rw [r.fates];exact g3 m (h2 m hm),fun x hx=>?_⟩;rw [r.fates];rcases h3 x hx with e | ⟨y,hy,e⟩
 . rw [e];omega
 . rw [<- e];exact g4 y hy
theorem zzc {s:zab} (h:yjg s) {m:zaf} (hm:0<=m.id/\m.id<s.fates.length):yjg (zkx s m)/\Rest s (zkx s m):=by
 unfold zkx;split
 . obtain ⟨k,hk⟩:∃ k:Nat,m.id=k:=⟨m.id.toNat,by omega⟩
   rw [hk];exact ⟨zzk h zz0,(zjl s k).1⟩
 . exact ⟨h,Rest.refl s⟩
theorem zze {s:zab} (h:yjg s) {x:zbr} (hm:0<=x.id/\x.id<s.fates.length):yjg (zid s x)/\Rest s (zid s x):=by
 unfold zid;split
 . obtain ⟨k,hk⟩:∃ k:Nat,x.id=k:=⟨x.id.toNat,by omega⟩
   rw [hk];exact ⟨zzk h zz0,(zjl s k).1⟩
 . exact ⟨h,Rest.refl s⟩
theorem yfo (s:zab)  (hs:yjg s):zao Tryz.prog 93 [.ptr 1000 0] (lk .free (pH3 s )) (.tup []) (lk .free (pD3 (expire s) )):=by
 have hs':=hs;obtain ⟨⟨h1,h2,h3,h4,h5,h6,h7⟩,g2,g3,g4⟩:=hs;generalize hE:expire s=E;refine zan mixed Tryz.func93 zz5 [1000,1001,1002,1003,1004,1005,1006,1007] zbi ?_;(conv=>whnf)
 (refine zac [] [(1000,1001)] [(0,11)] ?_;(conv=>whnf);refine dG (xag s.queue zz0) ?_)
 refine ⟨{x:(List zaf×List zaf)×zab // s.queue=x.1.1++x.1.2/\x.1.1.foldl zkx s=x.2/\yjg x.2/\Rest s x.2},
  fun | ⟨((A,B),t),_⟩=>hsP [1000,1001,1002,1003,1004,1005,1006,1007] 85 [(0,.ptr 1000 0),(11,.own 11),(12,i64 s.queue.length),(13,i64 A.length)] (xgz t  900 901 902 903 904 905 1007 [(1001,.dead),(1002,.dead),(1003,.dead),(1004,.dead),(1005,.dead),(1006,.dead),(11,xhq s.queue)]),fun x=>x.1.1.2.length,⟨(([],s.queue),s),rfl,rfl,hs',Rest.refl s⟩,?_,?_⟩
 . exact (zcx (pK8 ((900,some 1001)::(901,some 1002)::(902,some 1003)::(903,some 1004)::(904,some 1005)::(905,some 1006)::[(11,some 11)])))
 rintro ⟨⟨⟨A,B⟩,t⟩,k1,k2,k3,k4⟩;dsimp only at k1 k2 k3 k4;refine zht fun Q hQ=>?_
 (conv=>whnf);cases B with
 | cons m B =>
  have hz:=zcf k1;have zcz:(A++[m]).foldl zkx s=zkx t m:=by rw [zy77,k2];rfl
  have hm:=g3 m (zks k1);have ht:=k4.fates;obtain ⟨id,hid⟩:∃ k:Nat,m.id=k:=⟨m.id.toNat,by omega⟩
  obtain ⟨kn,kr⟩:=zzc k3 (m:=m) zz0;refine sT ?_;refine sO ?_;refine zal k1 rfl (zw ?_)
  (refine zac [] [(1000,1000),(1001,900),(1002,901),(1003,902),(1004,903),(1005,904),(1006,905),(1007,1007)] [] ?_;(conv=>whnf);refine dG (yfx t  m.came m.message.life) ?_)
  cases ho:old t.clock m.came m.message.life with
  | true =>
   rw [zkx,zy1 ho] at zcz kn kr;have pg:=zvf t  id k3.fit zz0 zz80;exact yy19
  | false =>
   exact yy59
 | nil =>
  have hz:=zcw k1;rw [zy8] at k1;rw [<- k1] at k2;have hE2:t.out.foldl zid t=E:=by rw [<- hE,expire,k2]
  have ko:=k3.sum;refine sN ?_;refine hQ _ _ ?_;conv=>whnf
  (refine zac [] [(1000,902)] [(0,34)] ?_;(conv=>whnf);refine dG (xah t.out zz0) ?_)
  refine ⟨{x:(List zbr×List zbr)×zab // t.out=x.1.1++x.1.2/\x.1.1.foldl zid t=x.2/\yjg x.2/\Rest t x.2},
   fun | ⟨((A,B),u),_⟩=>hsP [1000,1001,1002,1003,1004,1005,1006,1007] 85 [(0,.ptr 1000 0),(34,.own 34),(35,i64 t.out.length),(36,i64 A.length)] (xgz u  900 901 902 903 904 905 1007 [(1001,.dead),(1002,.dead),(1003,.dead),(1004,.dead),(1005,.dead),(1006,.dead),(34,xii t.out)]),fun x=>x.1.1.2.length,⟨(([],t.out),t),rfl,rfl,k3,Rest.refl t⟩,?_,?_⟩
  . exact (zcx (pK8 (pJ6 [(34,some 34)])))
  have g4:=k3.xid;clear hs' g3 g2 k4 k2 k1 hE hQ Q;rintro ⟨⟨⟨A,B⟩,u⟩,k1,k2,k3,k4⟩;dsimp only at k1 k2 k3 k4;refine zht fun Q hQ=>?_
  (conv=>whnf);cases B with
  | cons x B =>
   have hz:=zcf k1;have zcz:(A++[x]).foldl zid t=zid u x:=by rw [zy77,k2];rfl
   have hm:=g4 x (zks k1);have ht:=k4.fates;obtain ⟨id,hid⟩:∃ k:Nat,x.id=k:=⟨x.id.toNat,by omega⟩
   obtain ⟨kn,kr⟩:=zze k3 (x:=x) zz0;have hidl:id<u.fates.length:=by omega
   have pg:=zvf u  id k3.fit hidl zz80;rw [<- hid] at pg;obtain ⟨f,hf⟩:∃ f,u.fates[id]?=some f:=⟨_,zy3 hidl⟩
   have hdue:xci u x=(decide (f=1)&&(decide (x.state≠2)&&(old u.clock x.came x.life||(decide (x.state=3)&&(decide (x.tries>0)&&decide (x.times>x.tries)))))):=by
    unfold xci;rw [hid,zy40,hf];rfl
   refine sT ?_;refine sO ?_;refine zal k1 rfl (zw ?_);refine sOm ?_;refine zaj hf zz0 (zw ?_);by_cases d1:f=1
   case neg =>
    refine zag ?_ ?_
    . simpa using d1
    (conv=>whnf);refine sD ?_
    repeat refine sG ?_
    refine sF ?_;refine hQ _ _ ?_;conv=>whnf
    rw [zid,zy0 (by rw [hdue];simp [d1])] at zcz;exact yy10
   refine zai ?_ ?_
   . simpa using d1
   (conv=>whnf);by_cases d2:x.state=2
   case pos =>
    refine zag ?_ ?_
    . simpa using d2
    (conv=>whnf);refine sD ?_
    repeat refine sG ?_
    refine sF ?_;refine hQ _ _ ?_;conv=>whnf
    rw [zid,zy0 (by rw [hdue];simp [d1,d2])] at zcz;exact yy10
   refine zai ?_ ?_
   . simpa using d2
   conv=>whnf
   (refine zac [] [(1000,1000),(1001,900),(1002,901),(1003,902),(1004,903),(1005,904),(1006,905),(1007,1007)] [] ?_;(conv=>whnf);refine dG (yfx u  x.came x.life) ?_)
   exact yy6
  | nil =>
   exact yy49
theorem yfp (s:zab)  (hs:yjg s):zao Tryz.prog 93 [.ptr 1000 0] (lk .free (pH4 s )) (.tup []) (lk .free (pD4 (expire s) )):=by
 have hs':=hs;obtain ⟨⟨h1,h2,h3,h4,h5,h6,h7⟩,g2,g3,g4⟩:=hs;generalize hE:expire s=E;refine zan mixed Tryz.func93 zz5 [1000,1001,1002,1003,1004,1005,1006,1007] zbi ?_;(conv=>whnf)
 (refine zac [] [(1000,1001)] [(0,11)] ?_;(conv=>whnf);refine dG (xag s.queue zz0) ?_)
 refine ⟨{x:(List zaf×List zaf)×zab // s.queue=x.1.1++x.1.2/\x.1.1.foldl zkx s=x.2/\yjg x.2/\Rest s x.2},
  fun | ⟨((A,B),t),_⟩=>hsP [1000,1001,1002,1003,1004,1005,1006,1007] 85 [(0,.ptr 1000 0),(11,.own 11),(12,i64 s.queue.length),(13,i64 A.length)] (xha t  900 901 902 903 904 905 1007 [(1001,.dead),(1002,.dead),(1003,.dead),(1004,.dead),(1005,.dead),(1006,.dead),(11,xhq s.queue)]),fun x=>x.1.1.2.length,⟨(([],s.queue),s),rfl,rfl,hs',Rest.refl s⟩,?_,?_⟩
 . exact (zcx (pK8 ((900,some 1001)::(901,some 1002)::(902,some 1003)::(903,some 1004)::(904,some 1005)::(905,some 1006)::[(11,some 11)])))
 rintro ⟨⟨⟨A,B⟩,t⟩,k1,k2,k3,k4⟩;dsimp only at k1 k2 k3 k4;refine zht fun Q hQ=>?_
 (conv=>whnf);cases B with
 | cons m B =>
  have hz:=zcf k1;have zcz:(A++[m]).foldl zkx s=zkx t m:=by rw [zy77,k2];rfl
  have hm:=g3 m (zks k1);have ht:=k4.fates;obtain ⟨id,hid⟩:∃ k:Nat,m.id=k:=⟨m.id.toNat,by omega⟩
  obtain ⟨kn,kr⟩:=zzc k3 (m:=m) zz0;refine sT ?_;refine sO ?_;refine zal k1 rfl (zw ?_)
  (refine zac [] [(1000,1000),(1001,900),(1002,901),(1003,902),(1004,903),(1005,904),(1006,905),(1007,1007)] [] ?_;(conv=>whnf);refine dG (yfy t  m.came m.message.life) ?_)
  cases ho:old t.clock m.came m.message.life with
  | true =>
   rw [zkx,zy1 ho] at zcz kn kr;have pg:=zvg t  id k3.fit zz0 zz80;exact yy19
  | false =>
   exact yy59
 | nil =>
  have hz:=zcw k1;rw [zy8] at k1;rw [<- k1] at k2;have hE2:t.out.foldl zid t=E:=by rw [<- hE,expire,k2]
  have ko:=k3.sum;refine sN ?_;refine hQ _ _ ?_;conv=>whnf
  (refine zac [] [(1000,902)] [(0,34)] ?_;(conv=>whnf);refine dG (xah t.out zz0) ?_)
  refine ⟨{x:(List zbr×List zbr)×zab // t.out=x.1.1++x.1.2/\x.1.1.foldl zid t=x.2/\yjg x.2/\Rest t x.2},
   fun | ⟨((A,B),u),_⟩=>hsP [1000,1001,1002,1003,1004,1005,1006,1007] 85 [(0,.ptr 1000 0),(34,.own 34),(35,i64 t.out.length),(36,i64 A.length)] (xha u  900 901 902 903 904 905 1007 [(1001,.dead),(1002,.dead),(1003,.dead),(1004,.dead),(1005,.dead),(1006,.dead),(34,xii t.out)]),fun x=>x.1.1.2.length,⟨(([],t.out),t),rfl,rfl,k3,Rest.refl t⟩,?_,?_⟩
  . exact (zcx (pK8 (pJ6 [(34,some 34)])))
  have g4:=k3.xid;clear hs' g3 g2 k4 k2 k1 hE hQ Q;rintro ⟨⟨⟨A,B⟩,u⟩,k1,k2,k3,k4⟩;dsimp only at k1 k2 k3 k4;refine zht fun Q hQ=>?_
  (conv=>whnf);cases B with
  | cons x B =>
   have hz:=zcf k1;have zcz:(A++[x]).foldl zid t=zid u x:=by rw [zy77,k2];rfl
   have hm:=g4 x (zks k1);have ht:=k4.fates;obtain ⟨id,hid⟩:∃ k:Nat,x.id=k:=⟨x.id.toNat,by omega⟩
   obtain ⟨kn,kr⟩:=zze k3 (x:=x) zz0;have hidl:id<u.fates.length:=by omega
   have pg:=zvg u  id k3.fit hidl zz80;rw [<- hid] at pg;obtain ⟨f,hf⟩:∃ f,u.fates[id]?=some f:=⟨_,zy3 hidl⟩
   have hdue:xci u x=(decide (f=1)&&(decide (x.state≠2)&&(old u.clock x.came x.life||(decide (x.state=3)&&(decide (x.tries>0)&&decide (x.times>x.tries)))))):=by
    unfold xci;rw [hid,zy40,hf];rfl
   refine sT ?_;refine sO ?_;refine zal k1 rfl (zw ?_);refine sOm ?_;refine zaj hf zz0 (zw ?_);by_cases d1:f=1
   case neg =>
    refine zag ?_ ?_
    . simpa using d1
    (conv=>whnf);refine sD ?_
    repeat refine sG ?_
    refine sF ?_;refine hQ _ _ ?_;conv=>whnf
    rw [zid,zy0 (by rw [hdue];simp [d1])] at zcz;exact yy10
   refine zai ?_ ?_
   . simpa using d1
   (conv=>whnf);by_cases d2:x.state=2
   case pos =>
    refine zag ?_ ?_
    . simpa using d2
    (conv=>whnf);refine sD ?_
    repeat refine sG ?_
    refine sF ?_;refine hQ _ _ ?_;conv=>whnf
    rw [zid,zy0 (by rw [hdue];simp [d1,d2])] at zcz;exact yy10
   refine zai ?_ ?_
   . simpa using d2
   conv=>whnf
   (refine zac [] [(1000,1000),(1001,900),(1002,901),(1003,902),(1004,903),(1005,904),(1006,905),(1007,1007)] [] ?_;(conv=>whnf);refine dG (yfy u  x.came x.life) ?_)
   exact yy6
  | nil =>
   exact yy49
end Snd
namespace Snd
open Ser
def xav (l:List (List Chunk)):List Chunk:=l[0]?.getD []
def xgo (l:List (List Chunk)):List Chunk:=l[1]?.getD []
theorem ybz:∀ (l:List Path) (k:Nat),(k=0->0<l.length)->∃ c:Nat,Paths.zdh k l=c/\(c=0\/c<k+l.length)
 | [],k,h=>⟨0,rfl,.inl rfl⟩
 | p::r,k,_=>by
  rw [Paths.zdh];split
  . exact ⟨k,rfl,.inr zz4⟩
  . obtain ⟨c,h1,h2⟩:=ybz r (k+1) zz0
    exact ⟨c,h1,by rcases h2 with h2 | h2;exact .inl h2;exact .inr zz3⟩
theorem zee {s:zab} (h:0<s.paths.length):Paths.zdh 0 s.paths=(choose s:Nat)/\choose s<s.paths.length:=by
 obtain ⟨c,h1,h2⟩:=ybz s.paths 0 fun _=>h
 unfold choose;rw [h1];exact ⟨by simp,by rcases h2 with h2 | h2<;>simp<;>omega⟩
def zub (s:zab):Chunk:=⟨3,tag (Sco.zdy s.out s.cum).1,0,0,0,false,false,[],[],0,(Sco.zdy s.out s.cum).2⟩
def yqa (s:zab) (k:Nat) (w:Path):zab:={s with forward:=false,paths:=s.paths.set k (zcj s w)}
theorem zwz {s:zab} {o:List (List Chunk)} (h:s.forward=false\/(Sco.zdy s.out s.cum).1=s.cum):forward ⟨s,o⟩=⟨s,o⟩:=by rw [forward,zy1 h]
theorem yhi {s:zab} {o:List (List Chunk)} {w:Path} {l:List Chunk} (h:¬ (s.forward=false\/(Sco.zdy s.out s.cum).1=s.cum)) (ha:s.paths[choose s]?=some w) (hl:o[choose s]?=some l) :
 forward ⟨s,o⟩=⟨yqa s (choose s) w,o.set (choose s) (l++[zub s])⟩:=by
 rw [forward,zy0 h];simp only [setAt,ha,hl,yqa,zub]
theorem zyp {s:zab} {w:Path} (h:¬ w.zcj=0):zcj s w=w:=by rw [zcj,zy0 h]
theorem ztd {s:zab} {w:Path} (h:w.zcj=0):zcj s w={w with zcj:=W (s.clock+w.wait)}:=by rw [zcj,zy1 h]
theorem yba (s:zab) (h3:s.out.length<2 ^ 38) (h4:s.paths.length=1) :
 zao Tryz.prog 94 [.ptr 1000 0] (lk .free (pH3 s)) (.tup [])
  (lk .free (xfm (forward ⟨s,[[]]⟩).s (xav (forward ⟨s,[[]]⟩).out) 1001 1002 1003 1004 1005 1006 1007 0 [])):=by
 obtain ⟨hch,hch2⟩:=zee (s:=s) zz0;have hc0:choose s=0:=by omega
 have pc:=Paths.zeg s.paths zz0;rw [hch,hc0] at pc;obtain ⟨w,ha⟩:∃ w,s.paths[0]?=some w:=⟨_,zy3 zz0⟩
 refine zan mixed Tryz.func94 zz5 [1000,1001,1002,1003,1004,1005,1006,1007] zbi ?_;(conv=>whnf)
 (refine zac [] [(1000,1003)] [(0,17)] ?_;(conv=>whnf);refine dG (Sco.zeu s.out s.cum h3) ?_)
 refine sD ?_;by_cases c1:s.forward=false
 . rw [zwz (.inl c1)]
   refine zai ?_ ?_
   . simp [c1]
   conv=>whnf
   repeat refine sG ?_
   (exact zby (pK8 [(0,none)]))
 by_cases c2:(Sco.zdy s.out s.cum).1=s.cum
 . rw [zwz (.inr c2)]
   refine zag ?_ ?_
   . simp [c1]
   (conv=>whnf);refine zai ?_ ?_
   . simp [c2]
   conv=>whnf
   repeat refine sG ?_
   (exact zby (pK8 [(0,none)]))
 have hfy:=yhi (o:=[[]]) (l:=[]) (w:=w) zz67 (by rw [hc0];exact ha) (by rw [hc0];rfl);rw [hfy,hc0];refine zag ?_ ?_
 . simp [c1]
 (conv=>whnf);refine zag ?_ ?_
 . simp [c2]
 conv=>whnf
 repeat refine sG ?_
 (refine cL ?_;refine dL pc ?_)
 refine ⟨0,rfl,by decide,zw ?_⟩
 (refine cL ?_;refine dL (zcv _) ?_)
 refine zaa (c:=(1:Nat)*128<=140737488355328) zz5 (zw ?_);refine ⟨0,rfl,by decide,zw ?_⟩;refine sD ?_;refine sOm ?_;refine zaj ha rfl (zw ?_);by_cases c3:w.zcj=0
 case pos =>
  refine zai ?_ ?_
  . simpa using c3
  conv=>whnf
  repeat refine sG ?_
  refine zaj ha rfl (zw ?_);refine sR ?_;refine zaj ha rfl (zw ?_);refine sD ?_
  (exact zdc (pK8 [(0,some 62)]) zz18)
 case neg =>
  refine zag ?_ ?_
  . simpa using c3
  conv=>whnf
  repeat refine sG ?_
  rw [show (yqa s 0 w)={s with forward:=false} by {unfold yqa;rw [zyp c3,zou ha]}]
  (exact zby (pK8 [(0,some 62)]))
theorem ybb (s:zab) (h3:s.out.length<2 ^ 38) (h4:s.paths.length=2) :
 zao Tryz.prog 94 [.ptr 1000 0] (lk .free (pH4 s)) (.tup [])
  (lk .free (xbf (forward ⟨s,[[],[]]⟩).s (xav (forward ⟨s,[[],[]]⟩).out) (xgo (forward ⟨s,[[],[]]⟩).out) 1001 1002 1003 1004 1005 1006 1007 0 1 [])):=by
 obtain ⟨hch,hch2⟩:=zee (s:=s) zz0;have hc01:choose s=0\/choose s=1:=by omega
 rcases hc01 with hc0 | hc0
 case inl =>
  have pc:=Paths.zeg s.paths zz0;rw [hch,hc0] at pc;obtain ⟨w,ha⟩:∃ w,s.paths[0]?=some w:=⟨_,zy3 zz0⟩
  refine zan mixed Tryz.func94 zz5 [1000,1001,1002,1003,1004,1005,1006,1007] zbi ?_;(conv=>whnf)
  (refine zac [] [(1000,1003)] [(0,17)] ?_;(conv=>whnf);refine dG (Sco.zeu s.out s.cum h3) ?_)
  refine sD ?_;by_cases c1:s.forward=false
  . rw [zwz (.inl c1)]
    exact yy101
  by_cases c2:(Sco.zdy s.out s.cum).1=s.cum
  . rw [zwz (.inr c2)]
    exact yy82
  have hfy:=yhi (o:=[[],[]]) (l:=[]) (w:=w) zz67 (by rw [hc0];exact ha) (by rw [hc0];rfl);rw [hfy,hc0];refine zag ?_ ?_
  . simp [c1]
  (conv=>whnf);refine zag ?_ ?_
  . simp [c2]
  conv=>whnf
  repeat refine sG ?_
  (refine cL ?_;refine dL pc ?_)
  refine ⟨0,rfl,by decide,zw ?_⟩
  (refine cL ?_;refine dL (zcv _) ?_)
  refine zaa (c:=(1:Nat)*128<=140737488355328) zz5 (zw ?_);refine ⟨0,rfl,by decide,zw ?_⟩;refine sD ?_;refine sOm ?_;refine zaj ha rfl (zw ?_);by_cases c3:w.zcj=0
  case pos =>
   refine zai ?_ ?_
   . simpa using c3
   conv=>whnf
   repeat refine sG ?_
   refine zaj ha rfl (zw ?_);refine sR ?_;refine zaj ha rfl (zw ?_);refine sD ?_
   (exact zdc (pK8 [(0,some 62),(1,none)]) zz18)
  case neg =>
   refine zag ?_ ?_
   . simpa using c3
   conv=>whnf
   repeat refine sG ?_
   rw [show (yqa s 0 w)={s with forward:=false} by {unfold yqa;rw [zyp c3,zou ha]}]
   (exact zby (pK8 [(0,some 62),(1,none)]))
 case inr =>
  have pc:=Paths.zeg s.paths zz0;rw [hch,hc0] at pc;obtain ⟨w,ha⟩:∃ w,s.paths[1]?=some w:=⟨_,zy3 zz0⟩
  refine zan mixed Tryz.func94 zz5 [1000,1001,1002,1003,1004,1005,1006,1007] zbi ?_;(conv=>whnf)
  (refine zac [] [(1000,1003)] [(0,17)] ?_;(conv=>whnf);refine dG (Sco.zeu s.out s.cum h3) ?_)
  refine sD ?_;by_cases c1:s.forward=false
  . rw [zwz (.inl c1)]
    exact yy101
  by_cases c2:(Sco.zdy s.out s.cum).1=s.cum
  . rw [zwz (.inr c2)]
    exact yy82
  have hfy:=yhi (o:=[[],[]]) (l:=[]) (w:=w) zz67 (by rw [hc0];exact ha) (by rw [hc0];rfl);rw [hfy,hc0];refine zag ?_ ?_
  . simp [c1]
  (conv=>whnf);refine zag ?_ ?_
  . simp [c2]
  conv=>whnf
  repeat refine sG ?_
  (refine cL ?_;refine dL pc ?_)
  refine ⟨1,rfl,by decide,zw ?_⟩
  (refine cL ?_;refine dL (zcv _) ?_)
  refine zaa (c:=(1:Nat)*128<=140737488355328) zz5 (zw ?_);refine ⟨1,rfl,by decide,zw ?_⟩;refine sD ?_;refine sOm ?_;refine zaj ha rfl (zw ?_);by_cases c3:w.zcj=0
  case pos =>
   refine zai ?_ ?_
   . simpa using c3
   conv=>whnf
   repeat refine sG ?_
   refine zaj ha rfl (zw ?_);refine sR ?_;refine zaj ha rfl (zw ?_);refine sD ?_
   (exact zdc (pK8 [(1,some 62),(0,none)]) (by repeat' (first | exact z0 | refine z1 ?_ | refine ⟨?_,?_⟩ | ((exact (zes (f:=Path.row) (y:={w with zcj:=W (s.clock+w.wait)}) rfl).trans (zaq (by rw [show (yqa s 1 w).paths=s.paths.set 1 (zcj s w) from rfl,ztd c3];rfl)))) | exact z2)))
  case neg =>
   refine zag ?_ ?_
   . simpa using c3
   conv=>whnf
   repeat refine sG ?_
   rw [show (yqa s 1 w)={s with forward:=false} by {unfold yqa;rw [zyp c3,zou ha]}]
   (exact zby (pK8 [(1,some 62),(0,none)]))
end Snd
namespace Snd
open Ser
theorem zmi {α:Type} (f:α->Nat->α) (p:α) (i:Nat):(List.range (i+1)).foldl f p=f ((List.range i).foldl f p) i:=by
 rw [List.range_succ,zy77];rfl
theorem zsg {s:zab} {o:List (List Chunk)} {i c:Nat} {x:zbr} {w:Path} (hx:s.out[i]?=some x) (hw:s.paths[c]?=some w) (h:¬ (x.state=3/\w.zak<w.window)):zdn c ⟨s,o⟩ i=⟨s,o⟩:=by
 simp only [zdn,hx,opened,hw];rw [zy0 (by simpa using h)]
theorem zoc {s:zab} {o:List (List Chunk)} {i c:Nat} {x:zbr} {w:Path} {l:List Chunk} (hx:s.out[i]?=some x) (hw:s.paths[c]?=some w) (hl:o[c]?=some l) (h:x.state=3/\w.zak<w.window) :
 zdn c ⟨s,o⟩ i=⟨ycp s i c x w,o.set c (l++[x.chunk])⟩:=by
 simp only [zdn,hx,opened,hw];rw [zy1 (by simpa using h),xal hx hw hl]
theorem yit (s:zab) (a:List Chunk) (h3:s.out.length<2 ^ 28) (h4:s.paths.length=1) (ha:a.length<2 ^ 28) :
 zao Tryz.prog 95 [.ptr 1000 0] (lk .free (pH1 s a)) (.tup [])
  (lk .free (xfm (again ⟨s,[a]⟩).s (xav (again ⟨s,[a]⟩).out) 1001 1002 1003 1004 1005 1006 1007 0 [(1008,.dead)])):=by
 obtain ⟨hch,hch2⟩:=zee (s:=s) zz0;have hc0:choose s=0:=by omega
 have pc:=Paths.zeg s.paths zz0;rw [hch,hc0] at pc;have hag:again ⟨s,[a]⟩=(List.range s.out.length).foldl (zdn 0) ⟨s,[a]⟩:=by rw [again,hc0]
 generalize again ⟨s,[a]⟩=G at hag ⊢;refine zan mixed Tryz.func95 zz5 [1000,1001,1002,1003,1004,1005,1006,1007,1008] zbi ?_;(conv=>whnf)
 (refine cL ?_;refine dL pc ?_)
 refine ⟨{x:Nat×zab×List Chunk // x.1<=s.out.length/\(List.range x.1).foldl (zdn 0) ⟨s,[a]⟩=⟨x.2.1,[x.2.2]⟩/\x.2.1.out.length=s.out.length/\x.2.1.paths.length=s.paths.length/\x.2.2.length<=a.length+x.1},
  fun | ⟨(i,t,a'),_⟩=>hsP [1000,1001,1002,1003,1004,1005,1006,1007,1008] 51 [(0,.ptr 1000 0),(2,i64 0),(15,i64 s.out.length),(16,i64 i)] (xfm t a' 1001 1002 1003 1004 1005 1006 1007 900 [(1008,.dead)]),fun x=>s.out.length-x.1.1,⟨(0,s,a),by omega,rfl,rfl,rfl,by dsimp only;omega⟩,?_,?_⟩
 . exact (zbu (pK9 [(900,some 1008)]) zz2)
 rintro ⟨⟨i,t,a'⟩,k1,k2,k3,k4,k5⟩;dsimp only at k1 k2 k3 k4 k5;(conv=>whnf);by_cases hi:i<s.out.length
 case pos =>
  obtain ⟨x,hx⟩:∃ x,t.out[i]?=some x:=⟨_,zy3 zz0⟩
  obtain ⟨w,hw⟩:∃ w,t.paths[0]?=some w:=⟨_,zy3 zz0⟩
  have hst:=zmi (zdn 0) ⟨s,[a]⟩ i;rw [k2] at hst;have hno:=zsg (o:=[a']) (c:=0) hx hw;have hyes:=zoc (o:=[a']) (c:=0) (l:=a') hx hw rfl;refine sT ?_;refine sO ?_;refine zaj hx rfl (zw ?_);by_cases d1:x.state=3
  case neg =>
   refine zag ?_ ?_
   . simpa using d1
   conv=>whnf
   repeat refine sG ?_
   refine sF ?_;exact ⟨⟨(i+1,t,a'),by dsimp only;omega,by rw [hst,hno fun h=>d1 h.1],k3,k4,by dsimp only;omega⟩,(zbu (pK9 [(900,some 900)]) zz2),by dsimp only;omega⟩
  refine zai ?_ ?_
  . simpa using d1
  (conv=>whnf);refine sOm ?_;refine zaj hw rfl (zw ?_)
  (refine cL ?_;refine dL (Paths.zjw w) ?_)
  by_cases d2:w.zak<w.window
  case neg =>
   refine zag ?_ ?_
   . simpa using d2
   conv=>whnf
   repeat refine sG ?_
   refine sF ?_;exact ⟨⟨(i+1,t,a'),by dsimp only;omega,by rw [hst,hno fun h=>d2 h.2],k3,k4,by dsimp only;omega⟩,(zbu (pK9 [(900,some 900)]) zz2),by dsimp only;omega⟩
  refine zai ?_ ?_
  . simpa using d2
  conv=>whnf
  repeat refine sG ?_
  refine sOm ?_
  (refine zac [] [(1000,1000),(1001,1001),(1002,1002),(1003,1003),(1004,1004),(1005,1005),(1006,1006),(1007,1007),(1008,900)] [(0,920)] ?_;(conv=>whnf);refine dG (znu t a' i x w hx hw zz0) ?_)
  refine sF ?_;exact ⟨⟨(i+1,ycp t i 0 x w,a'++[x.chunk]),by dsimp only;omega,by rw [hst,hyes ⟨d1,d2⟩];rfl,by show (t.out.set i _).length=_;rw [zy30];exact k3,by show (t.paths.set 0 _).length=_;rw [zy30];exact k4,by simp;omega⟩,(zbu (pK9 [(900,some 920)]) zz2),by dsimp only;omega⟩
 case neg =>
  have hin:i=s.out.length:=by omega
  subst hin;refine sN ?_;rw [k2] at hag;subst hag
  (exact zby (pK9 [(0,some 900)]))
theorem yiu (s:zab) (a b:List Chunk) (h3:s.out.length<2 ^ 28) (h4:s.paths.length=2) (ha:a.length+b.length<2 ^ 28) :
 zao Tryz.prog 95 [.ptr 1000 0] (lk .free (pH2 s a b)) (.tup [])
  (lk .free (xbf (again ⟨s,[a,b]⟩).s (xav (again ⟨s,[a,b]⟩).out) (xgo (again ⟨s,[a,b]⟩).out) 1001 1002 1003 1004 1005 1006 1007 0 1 [(1008,.dead),(1009,.dead)])):=by
 obtain ⟨hch,hch2⟩:=zee (s:=s) zz0;have hc01:choose s=0\/choose s=1:=by omega
 rcases hc01 with hc0 | hc0
 case inl =>
  have pc:=Paths.zeg s.paths zz0;rw [hch,hc0] at pc;have hag:again ⟨s,[a,b]⟩=(List.range s.out.length).foldl (zdn 0) ⟨s,[a,b]⟩:=by rw [again,hc0]
  generalize again ⟨s,[a,b]⟩=G at hag ⊢;refine zan mixed Tryz.func95 zz5 [1000,1001,1002,1003,1004,1005,1006,1007,1008,1009] zbi ?_;(conv=>whnf)
  (refine cL ?_;refine dL pc ?_)
  refine ⟨{x:Nat×zab×List Chunk×List Chunk // x.1<=s.out.length/\(List.range x.1).foldl (zdn 0) ⟨s,[a,b]⟩=⟨x.2.1,[x.2.2.1,x.2.2.2]⟩/\x.2.1.out.length=s.out.length/\x.2.1.paths.length=s.paths.length/\x.2.2.1.length+x.2.2.2.length<=a.length+b.length+x.1},
   fun | ⟨(i,t,a',b'),_⟩=>hsP [1000,1001,1002,1003,1004,1005,1006,1007,1008,1009] 51 [(0,.ptr 1000 0),(2,i64 0),(15,i64 s.out.length),(16,i64 i)] (xbf t a' b' 1001 1002 1003 1004 1005 1006 1007 900 901 [(1008,.dead),(1009,.dead)]),fun x=>s.out.length-x.1.1,⟨(0,s,a,b),by omega,rfl,rfl,rfl,by dsimp only;omega⟩,?_,?_⟩
  . exact (zbu (zhf [(900,some 1008),(901,some 1009)]) zz2)
  rintro ⟨⟨i,t,a',b'⟩,k1,k2,k3,k4,k5⟩;dsimp only at k1 k2 k3 k4 k5;(conv=>whnf);by_cases hi:i<s.out.length
  case pos =>
   obtain ⟨x,hx⟩:∃ x,t.out[i]?=some x:=⟨_,zy3 zz0⟩
   obtain ⟨w,hw⟩:∃ w,t.paths[0]?=some w:=⟨_,zy3 zz0⟩
   have hst:=zmi (zdn 0) ⟨s,[a,b]⟩ i;rw [k2] at hst;have hno:=zsg (o:=[a',b']) (c:=0) hx hw;have hyes:=zoc (o:=[a',b']) (c:=0) (l:=a') hx hw rfl;refine sT ?_;refine sO ?_;refine zaj hx rfl (zw ?_);by_cases d1:x.state=3
   case neg =>
    exact yy40
   refine zai ?_ ?_
   . simpa using d1
   (conv=>whnf);refine sOm ?_;refine zaj hw rfl (zw ?_)
   (refine cL ?_;refine dL (Paths.zjw w) ?_)
   by_cases d2:w.zak<w.window
   case neg =>
    exact yy41
   refine zai ?_ ?_
   . simpa using d2
   conv=>whnf
   repeat refine sG ?_
   refine sOm ?_
   (refine zac [] [(1000,1000),(1001,1001),(1002,1002),(1003,1003),(1004,1004),(1005,1005),(1006,1006),(1007,1007),(1008,900),(1009,901)] [(0,920)] ?_;(conv=>whnf);refine dG (znv t a' b' i x w hx hw zz0) ?_)
   refine sF ?_;exact ⟨⟨(i+1,ycp t i 0 x w,a'++[x.chunk],b'),by dsimp only;omega,by rw [hst,hyes ⟨d1,d2⟩];rfl,by show (t.out.set i _).length=_;rw [zy30];exact k3,by show (t.paths.set 0 _).length=_;rw [zy30];exact k4,by simp;omega⟩,(zbu (zhf ((900,some 920)::[(901,some 901)])) zz2),by dsimp only;omega⟩
  case neg =>
   exact yy86
 case inr =>
  have pc:=Paths.zeg s.paths zz0;rw [hch,hc0] at pc;have hag:again ⟨s,[a,b]⟩=(List.range s.out.length).foldl (zdn 1) ⟨s,[a,b]⟩:=by rw [again,hc0]
  generalize again ⟨s,[a,b]⟩=G at hag ⊢;refine zan mixed Tryz.func95 zz5 [1000,1001,1002,1003,1004,1005,1006,1007,1008,1009] zbi ?_;(conv=>whnf)
  (refine cL ?_;refine dL pc ?_)
  refine ⟨{x:Nat×zab×List Chunk×List Chunk // x.1<=s.out.length/\(List.range x.1).foldl (zdn 1) ⟨s,[a,b]⟩=⟨x.2.1,[x.2.2.1,x.2.2.2]⟩/\x.2.1.out.length=s.out.length/\x.2.1.paths.length=s.paths.length/\x.2.2.1.length+x.2.2.2.length<=a.length+b.length+x.1},
   fun | ⟨(i,t,a',b'),_⟩=>hsP [1000,1001,1002,1003,1004,1005,1006,1007,1008,1009] 51 [(0,.ptr 1000 0),(2,i64 1),(15,i64 s.out.length),(16,i64 i)] (xbf t a' b' 1001 1002 1003 1004 1005 1006 1007 900 901 [(1008,.dead),(1009,.dead)]),fun x=>s.out.length-x.1.1,⟨(0,s,a,b),by omega,rfl,rfl,rfl,by dsimp only;omega⟩,?_,?_⟩
  . exact (zbu (zhf [(900,some 1008),(901,some 1009)]) zz2)
  rintro ⟨⟨i,t,a',b'⟩,k1,k2,k3,k4,k5⟩;dsimp only at k1 k2 k3 k4 k5;(conv=>whnf);by_cases hi:i<s.out.length
  case pos =>
   obtain ⟨x,hx⟩:∃ x,t.out[i]?=some x:=⟨_,zy3 zz0⟩
   obtain ⟨w,hw⟩:∃ w,t.paths[1]?=some w:=⟨_,zy3 zz0⟩
   have hst:=zmi (zdn 1) ⟨s,[a,b]⟩ i;rw [k2] at hst;have hno:=zsg (o:=[a',b']) (c:=1) hx hw;have hyes:=zoc (o:=[a',b']) (c:=1) (l:=b') hx hw rfl;refine sT ?_;refine sO ?_;refine zaj hx rfl (zw ?_);by_cases d1:x.state=3
   case neg =>
    exact yy40
   refine zai ?_ ?_
   . simpa using d1
   (conv=>whnf);refine sOm ?_;refine zaj hw rfl (zw ?_)
   (refine cL ?_;refine dL (Paths.zjw w) ?_)
   by_cases d2:w.zak<w.window
   case neg =>
    exact yy41
   refine zai ?_ ?_
   . simpa using d2
   conv=>whnf
   repeat refine sG ?_
   refine sOm ?_
   (refine zac [] [(1000,1000),(1001,1001),(1002,1002),(1003,1003),(1004,1004),(1005,1005),(1006,1006),(1007,1007),(1008,900),(1009,901)] [(0,920)] ?_;(conv=>whnf);refine dG (znw t a' b' i x w hx hw zz0) ?_)
   refine sF ?_;exact ⟨⟨(i+1,ycp t i 1 x w,a',b'++[x.chunk]),by dsimp only;omega,by rw [hst,hyes ⟨d1,d2⟩];rfl,by show (t.out.set i _).length=_;rw [zy30];exact k3,by show (t.paths.set 1 _).length=_;rw [zy30];exact k4,by simp;omega⟩,(zbu (zhf ((900,some 900)::[(901,some 920)])) zz2),by dsimp only;omega⟩
  case neg =>
   exact yy86
end Snd
theorem zyz {rows ys:List (List PV)} {z:List PV} {i j a k m:Nat} (hij:i<=j) (hj:j<=rows.length) (ha:a=i) (hy:ys=(rows.drop j).take (rows.length-j)) (hk:k=i+ys.length) (hm:m=j-i) (_:i+ys.length+(j-i)=rows.length) :
 zcm (zcm rows a ys) k (List.replicate m z)=rows.take i++rows.drop j++List.replicate (j-i) z:=by
 subst ha hm;have hy2:ys=rows.drop j:=by rw [hy,zy37 (by simp)]
 have h1:ys.length=rows.length-j:=by rw [hy2];simp
 have h2:(rows.take a).length=a:=by simp;omega
 have h3:zcm rows a ys=(rows.take a++ys)++rows.drop k:=by rw [zcm,hk]
 have h4:(rows.take a++ys).length=k:=by simp;omega
 rw [zcm,h3,zy93 h4,zy31 (by simp only [zy6,zy34,zy76,h2];omega),zy8,hy2]
theorem yxq {rows ys zs:List (List PV)} {a b k:Nat} (hk:k<rows.length) (ha:a=k+1) (hy:ys=rows.drop k) (hb:b=k) (hz:zs.length=1):zcm (zcm rows a ys) b zs=rows.take k++zs++rows.drop k:=by
 subst ha hy hb;have h1:zcm rows (b+1) (rows.drop b)=rows.take (b+1)++rows.drop b:=by
  rw [zcm,zy31 (i:=b+1+(rows.drop b).length) (by simp;omega),zy8]
 have h2:(rows.take (b+1)).length=b+1:=by simp;omega
 rw [zcm,h1,hz,List.drop_left' h2,zy72 (by omega),List.take_take,Nat.min_eq_left (by omega)]
theorem yxp {rows ys zs:List (List PV)} {z:List PV} {a b k m:Nat} (hk:k<rows.length) (hm:m=rows.length+1-k) (ha:a=k) (hz:zs.length=1) (hb:b=k+1) (hy:ys=rows.drop k) :
 zcm (zcm (rows.take k++List.replicate m z) a zs) b ys=rows.take k++zs++rows.drop k:=by
 subst hm ha hb hy;have h1:(rows.take a).length=a:=by simp;omega
 have h2:zcm (rows.take a++List.replicate (rows.length+1-a) z) a zs=(rows.take a++zs)++(rows.take a++List.replicate (rows.length+1-a) z).drop (a+1):=by
  rw [zcm,zy93 h1,hz]
 have h3:(rows.take a++zs).length=a+1:=by simp;omega
 rw [zcm,h2,zy93 h3,zy31 (i:=a+1+_) (by simp;omega),zy8]
theorem xkt {α:Type} {f:α->List PV} {v:α} {m:Nat} {l r:List α} (h:0<m):(l.map f++[f v].take m)++r.map f=(l++v::r).map f:=by
 rw [zy37 (by simp;omega),zy36,zy24,zy33];rfl
theorem xgv {α:Type} {f:α->List PV} {v:α} {m k:Nat} {l:List α} (h:0<m):(l.map f).take k++[f v].take m++(l.map f).drop k=(l.take k++v::l.drop k).map f:=by
 rw [<- zy119,<- zy101];exact xkt h
def ztj (cmp:Span->Int) (l:List Span) (K:Nat):Bool:=match l[K]? with | some s=>cmp s==0 | none=>false
theorem xeq {g:FuncId} {cmp:Span->Int} {n:Int} (hg:∀ m:Span,zao Tryz.prog g [m.hv,i64 n] zae (i64 (cmp m)) zae) (l:List Span) (K:Nat) (hK:K<=l.length) (hm:∀ (i:Nat) (h:i<l.length),cmp l[i]<0↔i<K) (hb:l.length<2 ^ 40) :
 zao Tryz.prog 195 [Ser.zau l,i64 n,.clo g []] zae (.tup [i64 K,zbk (ztj cmp l K)]) zae:=by
 refine zap mixed Tryz.func195 zz5 ?_;(conv=>whnf);refine ⟨{x:Nat×Nat // x.1<=K/\K<=x.2/\x.2<=l.length},fun | ⟨(i,j),_⟩=>hs 49 [(0,Ser.zau l),(1,i64 n),(2,.clo g []),(8,i64 l.length),(9,i64 i),(10,i64 j)] [],fun x=>x.1.2-x.1.1,⟨(0,l.length),by simp,hK,zy22 _⟩,?_,?_⟩
 . exact (zdx [])
 rintro ⟨⟨i,j⟩,h1,h2,h3⟩;dsimp only at h1 h2 h3;(conv=>whnf);by_cases c:i<j
 . have hlt:(i+j) / 2<l.length:=by omega
   refine sT ?_;refine sF ?_;refine zbl (zsy zz0 zz0) (zw ?_);refine zaa zz5 (zw ?_);refine zbl (z':=(((i+j) / 2:Nat):Int)) ?_ ?_
   . show W (((i:Int)+j) / 2)=_
     rw [zbh (by omega) (by omega)];omega
   (conv=>whnf);refine zdk ((i+j) / 2) rfl hlt (zw ?_)
   (refine cZ ?_;refine dL (hg l[(i+j) / 2]) ?_)
   by_cases c2:cmp l[(i+j) / 2]<0
   . have hk:=(hm _ hlt).1 c2
     refine sT ?_;refine sF ?_;exact ⟨⟨((i+j) / 2+1,j),hk,h2,h3⟩,(zdx []),by dsimp only;omega⟩
   . have hk:¬ (i+j) / 2<K:=fun h=>c2 ((hm _ hlt).2 h)
     refine sN ?_;exact ⟨⟨(i,(i+j) / 2),h1,by dsimp only;omega,by dsimp only;omega⟩,(zdx []),by dsimp only;omega⟩
 . have hi:i=K:=by omega
   subst hi;refine sN ?_;by_cases c2:i<l.length
   . refine sT ?_
     refine zdk i rfl c2 (zw ?_)
     (refine cZ ?_;refine dL (hg l[i]) ?_)
     rw [ztj,zy3 c2]
   . refine sN ?_
     rw [ztj,zy51 (by omega)]
theorem yno (l:List Span) (i j:Nat) (hij:i<=j) (hj:j<=l.length) (hb:l.length<2 ^ 40) :
 zao Tryz.prog 198 [.osl 1000 2 0 (l.map Span.row).length,i64 i,i64 j] (lk .free [(1000,.live (.row 199 2 (l.map Span.row)))])
  (.osl 1000 2 0 (l.length-(j-i))) (lk .free [(1000,.live (.row 199 2 ((l.take i++l.drop j).map Span.row++List.replicate (j-i) [pi 0,pi 0])))]):=by
 refine zan mixed Tryz.func198 zz5 [1000] zbi ?_;have hlr:(l.map Span.row).length=l.length:=by simp
 (conv=>whnf);refine sO ?_;by_cases h:i=j
 . subst h
   refine sT ?_;refine zam [(1000,some 1000)] rfl rfl ⟨rfl,trivial⟩ rfl ?_ ⟨⟨rfl,.inl ⟨1000,rfl,?_⟩⟩,trivial⟩
   . show HV.osl 1000 2 0 (l.length-(i-i))=HV.osl 1000 2 0 (l.map Span.row).length
     rw [hlr,zy98];rfl
   . show zad.live (.row _ 2 (l.map Span.row))=zad.live (.row _ 2 _)
     rw [zy25,zy98,zy142,zy8]
 . refine sN ?_
   refine sO ?_;refine sO ?_;refine ⟨_,rfl,?_,?_⟩
   . rw [hlr];omega
   (conv=>whnf);refine zaa zz3 ?_;(conv=>whnf);refine zbe ?_ ?_
   . kernel_rfl
   (conv=>whnf);refine zaa zz35 ?_;(conv=>whnf);refine zaa zz35 ?_;(conv=>whnf);refine zam [(1000,some 1000)] rfl rfl ⟨rfl,trivial⟩ rfl ?_ ⟨⟨rfl,.inl ⟨1000,rfl,?_⟩⟩,trivial⟩
   . show HV.osl 1000 2 0 _=HV.osl 1000 2 0 _
     congr 1;simp;omega
   . refine (congrArg (fun r=>zad.live (.row _ 2 r)) (zyz (rows:=l.map Span.row) (i:=i) (j:=j) (z:=[pi 0,pi 0]) hij (by rw [hlr];exact hj) ?_ ?_ ?_ ?_ ?_)).trans ?_
     . simp<;>omega
     . simp<;>omega
     . simp<;>omega
     . simp;omega
     . simp;omega
     . rw [zy36,zy119,zy101];rfl
theorem ywq (l:List Span) (i j:Nat) (hij:i<=j) (hj:j<=l.length) (hb:l.length<2 ^ 40) :
 zao Tryz.prog 198 [.own 1000,i64 i,i64 j] (lk .free [(1000,.live (.row 199 2 (l.map Span.row)))])
  (.own 0) (lk .free [(1000,.dead),(0,.live (.row 199 2 ((l.take i++l.drop j).map Span.row)))]):=by
 have h:=zjj (d:=0) (L:=[]) (rows:=(l.take i++l.drop j).map Span.row++List.replicate (j-i) [pi 0,pi 0]) (zua (yno l i j hij hj hb)) (.inl rfl) zz3 rfl zz5
 rwa [zy93 zz3] at h
theorem zim (a b:List Span) (x:Span) (i j:Int) (hi:i=a.length) (hj:j=a.length+1) (hb:(a++x::b).length<2 ^ 40) :
 zao Tryz.prog 198 [.own 1000,i64 i,i64 j] (lk .free [(1000,.live (.row 199 2 ((a++x::b).map Span.row)))])
  (.own 0) (lk .free [(1000,.dead),(0,.live (.row 199 2 ((a++b).map Span.row)))]):=by
 subst hi hj;have h:=ywq (a++x::b) a.length (a.length+1) zz0 zz4 hb
 rwa [zy152,show (a++x::b).drop (a.length+1)=b by rw [<- zy134,zy111];rfl,zy125] at h
theorem ygy {inp out:List Span} (a b:List Span) (x:Span) (i j:Int) (h1:inp=a++x::b) (h2:out=a++b) (hi:i=a.length) (hj:j=a.length+1) (hb:inp.length<2 ^ 40) :
 zao Tryz.prog 198 [.own 1000,i64 i,i64 j] (lk .free [(1000,.live (.row 199 2 (inp.map Span.row)))])
  (.own 0) (lk .free [(1000,.dead),(0,.live (.row 199 2 (out.map Span.row)))]):=by
 subst h1 h2;exact zim a b x i j hi hj hb
theorem xed {H:Nat->zad} {i1 i2 n o l:Nat} {t1 n1 t2 n2 c:Nat} {r1 r2:List (List PV)} (h1:H i1=.live (.row t1 n1 r1)) (h2:H i2=.live (.buf t2 n2 r2 c)) (hne:i1≠i2) :
 Ov Tryz.prog 204 [.own i1,.osl i2 n o l] H ⟨zbk false,[],[i1,i2]⟩:=by
 obtain ⟨inf,hi,hs⟩:=zy29.1 (show (Tryz.prog.info? 199).map (·.size)=some 2 by kernel_rfl);exact ⟨Tryz.f204,199,inf,_,_,i1,i2,_,_,Tryz.func204,rfl,by decide,by kernel_rfl,by kernel_rfl,⟨33,rfl,by kernel_rfl⟩,hi,by rw [hs];decide,rfl,.inl rfl,.inr ⟨_,_,_,rfl⟩,hne,h1,h2,by simp,by simp,rfl⟩
theorem ydp (l:List Span) (v:Span) (hb:l.length<2 ^ 40) :
 zao Tryz.prog 197 [.own 1000,i64 l.length,.own 1001] (lk .free [(1000,.live (.row 199 2 (l.map Span.row))),(1001,.live (.row 199 2 [v.row]))])
  (.own 0) (lk .free [(1000,.dead),(0,.live (.row 199 2 ((l++[v]).map Span.row))),(1001,.dead)]):=by
 refine zan mixed Tryz.func197 zz5 [1000,1001] (fun i=>by rcases zbi (L:=[(1000,zad.live (.row 199 2 (l.map Span.row))),(1001,.live (.row 199 2 [v.row]))]) i with h | h;exact .inl h;exact .inr h) ?_;have hlr:(l.map Span.row).length=l.length:=by simp
 (conv=>whnf);refine sO ?_;refine sT ?_;refine zaa (c:=((l.map Span.row).length+[v.row].length)*16<=140737488355328) zz3 (zw ?_);refine zam [(1000,some 1000),(0,some 25),(1001,some 1001)] rfl rfl ⟨rfl,rfl,trivial⟩ rfl rfl ⟨rfl,⟨rfl,.inl ⟨25,rfl,?_⟩⟩,rfl,trivial⟩;exact zca (f:=Span.row) rfl rfl
theorem ydq (l:List Span) (k:Nat) (v:Span) (hk:k<l.length) (hb:l.length<2 ^ 40) :
 zao Tryz.prog 197 [.own 1000,i64 k,.own 1001] (lk .free [(1000,.live (.row 199 2 (l.map Span.row))),(1001,.live (.row 199 2 [v.row]))])
  (.own 0) (lk .free [(1000,.dead),(0,.live (.row 199 2 ((l.take k++v::l.drop k).map Span.row))),(1001,.dead)]):=by
 have hlr:(l.map Span.row).length=l.length:=by simp
 refine yrh (by intro h;rw [h] at hlr;simp at hlr;omega) fun cap hc1 hc2=>?_
 rw [hlr] at hc1;by_cases hc:l.length+1<=cap
 . have hw:=zjj (P:=Tryz.prog) (f:=197) (args:=[.osl 1000 2 0 (l.map Span.row).length,i64 k,.own 1001]) (H:=lk .free [(1000,.live (.buf 199 2 (l.map Span.row) cap)),(1001,.live (.row 199 2 [v.row]))])
    (id:=1000) (d:=0) (b:=.buf 199 2 ((l.take k++v::l.drop k).map Span.row) cap) (t:=199) (n:=2) (k:=l.length+1) (rows:=(l.take k++v::l.drop k).map Span.row) (L:=[(1001,.dead)]) ?_ (.inr ⟨cap,rfl⟩) zz3 rfl zz5
   . rwa [zy37 zz3] at hw
   refine zan mixed Tryz.func197 zz5 [1000,1001] (fun i=>by rcases zbi (L:=[(1000,zad.live (.buf 199 2 (l.map Span.row) cap)),(1001,.live (.row 199 2 [v.row]))]) i with h | h;exact .inl h;exact .inr h) ?_;(conv=>whnf);refine sO ?_;refine sN ?_;refine zat (z:=((l.map Span.row).length:Int)+1) (zbh zz0 zz0) (zw ?_);refine zaa zz0 (zw ?_);refine sN ?_;refine zat (z:=((l.map Span.row).length:Int)+1) (zbh zz0 zz0) (zw ?_);refine sO ?_;refine zbl (z':=((k+1:Nat):Int)) ?_ ?_
   . show W ((k:Int)+1)=_
     rw [zbh (by omega) (by omega)];push_cast;rfl
   (conv=>whnf);refine sO ?_;refine yxe (xed rfl rfl zz5) (zw ?_);refine zbl (z':=((k+1:Nat):Int)) ?_ ?_
   . show W ((k:Int)+1)=_
     rw [zbh (by omega) (by omega)];push_cast;rfl
   (conv=>whnf);refine sO ?_;refine sO ?_;refine zjd (o':=k) (n':=l.length-k) zz4 ?_ ?_
   . show min _ _=l.length-k
     simp;omega
   refine zom (l:=l) zz0 ?_;(conv=>whnf);refine sOm ?_;refine zbe ?_ ?_
   . kernel_rfl
   (conv=>whnf);refine sO ?_;refine zaa zz35 (zw ?_);refine zam [(1000,some 1000),(1001,some 1001)] rfl rfl ⟨rfl,rfl,trivial⟩ rfl ?_ ⟨⟨rfl,.inl ⟨1000,rfl,?_⟩⟩,rfl,trivial⟩
   . show HV.osl 1000 2 0 _=HV.osl 1000 2 0 _
     congr 1;simp
   . refine (congrArg (fun r=>zad.live (.buf _ 2 r cap)) (yxq (rows:=l.map Span.row) (k:=k) zz0 ?_ ?_ ?_ ?_)).trans ?_
     . simp<;>omega
     . rw [zy101]
     . simp<;>omega
     . simp<;>omega
     . refine congrArg (fun r=>zad.live (.buf _ 2 r cap)) (xgv (f:=Span.row) ?_)
       simp;omega
 . refine zan mixed Tryz.func197 zz5 [1000,1001] (fun i=>by rcases zbi (L:=[(1000,zad.live (.buf 199 2 (l.map Span.row) cap)),(1001,.live (.row 199 2 [v.row]))]) i with h | h;exact .inl h;exact .inr h) ?_
   (conv=>whnf);refine sO ?_;refine sN ?_;refine zat (z:=((l.map Span.row).length:Int)+1) (zbh zz0 zz0) (zw ?_);refine zaa zz0 (zw ?_);refine sT ?_;refine sO ?_;refine zat (z:=((l.map Span.row).length:Int)+1) (zbh zz0 zz0) (zw ?_);refine zbl (z':=((l.length+1-k:Nat):Int)) ?_ ?_
   . show W (((l.map Span.row).length:Int)+1-k)=_
     rw [zbh (by omega) (by omega)];omega
   (conv=>whnf);refine zaa (show 0<=_/\_<=_/\_<_/\_<=_/\(_:Int)*16<=(140737488355328:Int) from ?_) ?_
   . simp;omega
   (conv=>whnf);refine zaa ?_ ?_
   . simp;omega
   (conv=>whnf);refine zaa zz35 (zw ?_);refine zbl (z':=((k+1:Nat):Int)) ?_ ?_
   . show W ((k:Int)+1)=_
     rw [zbh (by omega) (by omega)];push_cast;rfl
   (conv=>whnf);refine zaa zz35 (zw ?_);refine zaa zz35 (zw ?_);refine zjd (o':=k) (n':=l.length-k) zz4 ?_ ?_
   . show min _ _=l.length-k
     simp [zcm];omega
   refine zom (l:=l) zz0 ?_;(conv=>whnf);refine zaa zz35 (zw ?_);refine zbe ?_ ?_
   . kernel_rfl
   (conv=>whnf);refine zam [(1000,some 1000),(0,some 40),(1001,some 1001)] rfl rfl ⟨rfl,rfl,trivial⟩ rfl rfl ⟨rfl,⟨rfl,.inl ⟨40,rfl,?_⟩⟩,rfl,trivial⟩;refine (congrArg (fun r=>zad.live (.row _ 2 r)) (yxp (rows:=l.map Span.row) (k:=k) zz0 ?_ ?_ ?_ ?_ ?_)).trans ?_
   . simp
   . simp
   . simp;omega
   . simp
   . rw [zy101]
   . refine congrArg (fun r=>zad.live (.row _ 2 r)) (xgv (f:=Span.row) ?_)
     simp;omega
theorem yhv (a b:List Span) (v:Span) (k:Int) (hk:k=a.length) (hb:(a++b).length<2 ^ 40) :
 zao Tryz.prog 197 [.own 1000,i64 k,.own 1001] (lk .free [(1000,.live (.row 199 2 ((a++b).map Span.row))),(1001,.live (.row 199 2 [v.row]))])
  (.own 0) (lk .free [(1000,.dead),(0,.live (.row 199 2 ((a++v::b).map Span.row))),(1001,.dead)]):=by
 subst hk;cases b with
 | nil =>
  rw [zy8] at hb ⊢;exact ydp a v hb
 | cons x b =>
  have h:=ydq (a++x::b) a.length v zz4 hb
  rwa [zy152,zy111] at h
namespace Snd
open Ser
theorem xfv (l:List zaf) (i j:Nat) (hij:i<=j) (hj:j<=l.length) (hb:l.length<2 ^ 40) :
 zao Tryz.prog 139 [.osl 1000 10 0 (l.map zaf.row).length,i64 i,i64 j] (lk .free [(1000,.live (.row 117 10 (l.map zaf.row)))])
  (.osl 1000 10 0 (l.length-(j-i))) (lk .free [(1000,.live (.row 117 10 ((l.take i++l.drop j).map zaf.row++List.replicate (j-i) [pi 0,pi 0,pi 0,pi 0,pi 0,pi 0,pb false,pi 0,pi 0,.v (.slice none 0 0)])))]):=by
 refine zan mixed Tryz.func139 zz5 [1000] zbi ?_;have hlr:(l.map zaf.row).length=l.length:=by simp
 (conv=>whnf);refine sO ?_;by_cases h:i=j
 . subst h
   refine sT ?_;refine zam [(1000,some 1000)] rfl rfl ⟨rfl,trivial⟩ rfl ?_ ⟨⟨rfl,.inl ⟨1000,rfl,?_⟩⟩,trivial⟩
   . show HV.osl 1000 10 0 (l.length-(i-i))=HV.osl 1000 10 0 (l.map zaf.row).length
     rw [hlr,zy98];rfl
   . show zad.live (.row _ 10 (l.map zaf.row))=zad.live (.row _ 10 _)
     rw [zy25,zy98,zy142,zy8]
 . refine sN ?_
   refine sO ?_;refine sO ?_;refine ⟨_,rfl,?_,?_⟩
   . rw [hlr];omega
   (conv=>whnf);refine zaa zz3 ?_;(conv=>whnf);refine zbe ?_ ?_
   . kernel_rfl
   (conv=>whnf);refine zaa zz35 ?_;(conv=>whnf);refine zaa zz35 ?_;(conv=>whnf);refine zam [(1000,some 1000)] rfl rfl ⟨rfl,trivial⟩ rfl ?_ ⟨⟨rfl,.inl ⟨1000,rfl,?_⟩⟩,trivial⟩
   . show HV.osl 1000 10 0 _=HV.osl 1000 10 0 _
     congr 1;simp;omega
   . refine (congrArg (fun r=>zad.live (.row _ 10 r)) (zyz (rows:=l.map zaf.row) (i:=i) (j:=j) (z:=[pi 0,pi 0,pi 0,pi 0,pi 0,pi 0,pb false,pi 0,pi 0,.v (.slice none 0 0)]) hij (by rw [hlr];exact hj) ?_ ?_ ?_ ?_ ?_)).trans ?_
     . simp<;>omega
     . simp<;>omega
     . simp<;>omega
     . simp;omega
     . simp;omega
     . rw [zy36,zy119,zy101];rfl
theorem xfh (l:List zaf) (i j:Nat) (hij:i<=j) (hj:j<=l.length) (hb:l.length<2 ^ 40) :
 zao Tryz.prog 139 [.own 1000,i64 i,i64 j] (lk .free [(1000,.live (.row 117 10 (l.map zaf.row)))])
  (.own 0) (lk .free [(1000,.dead),(0,.live (.row 117 10 ((l.take i++l.drop j).map zaf.row)))]):=by
 have h:=zjj (d:=0) (L:=[]) (rows:=(l.take i++l.drop j).map zaf.row++List.replicate (j-i) [pi 0,pi 0,pi 0,pi 0,pi 0,pi 0,pb false,pi 0,pi 0,.v (.slice none 0 0)]) (zua (xfv l i j hij hj hb)) (.inl rfl) zz3 rfl zz5
 rwa [zy93 zz3] at h
theorem zju (s:ziy) (m:zaf) (bytes:Int) (yqf:Bool) (hb:s.had.length<2 ^ 40) (c2:0<=m.message.stream) (c3:m.message.stream<s.had.length) :
 zao Tryz.prog 138 [s.hv,m.hv,i64 bytes,zbk yqf] zae (.agg [i64 (Sch.had s m bytes yqf).last,i64 (Sch.had s m bytes yqf).hand,.own 0]) (lk .free [(0,yov (Sch.had s m bytes yqf).had)]):=by
 have hy:(s.had.map fun n=>[pi n]).set m.message.stream.toNat [pi (W (s.had[m.message.stream.toNat]+bytes))]=(Sch.had s m bytes yqf).had.map fun n=>[pi n]:=by
  simp only [Sch.had,zy1 (And.intro c2 c3)];rw [zy107,zy3 (by omega)]
  rfl
 refine zan mixed Tryz.func138 zz5 [] (fun _=>.inl rfl) ?_;(conv=>whnf)
 (refine zas [(0,11)] ?_;(conv=>whnf);refine dO (Sch.zdb s hb) ?_)
 refine sD ?_;refine zah (fun c1=>?_) (fun c1=>?_)
 all_goals
  subst c1;(conv=>whnf)
  repeat refine sG ?_
  refine zai ?_ ?_
  . simpa using c2
  (conv=>whnf);refine zai ?_ ?_
  . simpa using c3
  conv=>whnf
  repeat refine sG ?_
  refine sOm ?_;refine zbz (r:=[pi s.had[m.message.stream.toNat]]) zz0 (by rw [zy40,zy10,zy3 (h:=show m.message.stream.toNat<s.had.length by omega)];rfl) ?_;(conv=>whnf);refine zcp (zw ?_);refine sOm ?_;refine zbz (r:=[pi s.had[m.message.stream.toNat]]) zz0 (by rw [zy40,zy10,zy3 (h:=show m.message.stream.toNat<s.had.length by omega)];rfl) ?_;(conv=>whnf);refine zam [(0,some 11)] rfl rfl trivial rfl rfl ⟨⟨rfl,.inl ⟨11,rfl,?_⟩⟩,trivial⟩;exact zaq hy
theorem ysj {α:Type} {p:α->Bool}:∀ {l:List α} {k:Nat},0<=zbq p k l->∃ i,i<l.length/\zbq p k l=((k+i:Nat):Int)
 | [],k,h=>by simp [zbq] at h
 | y::r,k,h=>by
  simp only [zbq] at h ⊢;split at h
  . rename_i hp;exact ⟨0,by simp,by rw [zy1 hp];simp⟩
  . rename_i hp
    obtain ⟨i,h1,h2⟩:=ysj h;exact ⟨i+1,by simp;omega,by rw [zy0 hp,h2];congr 1;omega⟩
theorem yje {t:Int} {s:ziy} {q:List zaf} (h:0<=Sch.next t s q):∃ k:Nat,k<q.length/\Sch.next t s q=k:=by
 have hf:∀ st,0<=Sch.first q st->∃ k:Nat,k<q.length/\Sch.first q st=k:=fun st h=>by
  obtain ⟨i,h1,h2⟩:=ysj h;exact ⟨i,h1,by rw [Sch.first,h2];simp⟩
 have ha:∀ (j k:Nat) (last n:Int),0<=Sch.after q last n k j->∃ i:Nat,i<q.length/\Sch.after q last n k j=i:=by
  intro j
  induction j with
  | zero=>intro k last n h;simp [Sch.after] at h
  | succ j ih =>
   intro k last n h;rw [Sch.after] at h ⊢;split at h
   . rename_i c;rw [zy1 c];exact hf _ h
   . rename_i c;rw [zy0 c];exact ih _ _ _ h
 have hr:∀ (j k:Nat),0<=Sch.zfg q k j->∃ i:Nat,i<q.length/\Sch.zfg q k j=i:=by
  intro j
  induction j with
  | zero=>intro k h;simp [Sch.zfg] at h
  | succ j ih =>
   intro k h;rw [Sch.zfg] at h ⊢;split at h
   . rename_i c;rw [zy1 c];exact hf _ h
   . rename_i c;rw [zy0 c];exact ih _ h
 unfold Sch.next at h ⊢;split at h
 . omega
 rename_i c0;rw [zy0 c0];split at h
 . omega
 rename_i c1;rw [zy0 c1];split at h
 . rename_i c;rw [zy1 c]
   split at h
   . rename_i c;rw [zy1 c];obtain ⟨i,h1,h2⟩:=ysj h;exact ⟨i,h1,by rw [Sch.ydn,h2];simp⟩
   . rename_i c;rw [zy0 c];exact ha _ _ _ _ h
 rename_i c;rw [zy0 c];split at h
 . rename_i c;rw [zy1 c];exact ha _ _ _ _ h
 rename_i c;rw [zy0 c];split at h
 . rename_i c;rw [zy1 c];exact hr _ _ h
 rename_i c;rw [zy0 c];split at h
 . rename_i c;rw [zy1 c];unfold Sch.least at h ⊢
   split at h
   . omega
   . rename_i c;rw [zy0 c];exact hf _ h
 . rename_i c;rw [zy0 c];exact ⟨0,by omega,rfl⟩
structure zsx (s:zab) (m:zaf):Prop where
 mid:xhu s m
 had:m.message.stream<s.sched.had.length
 sent:0<=m.sent
 left:m.sent<m.message.data.length
 data:m.message.data.length<2 ^ 30
structure xfo (s:zab):Prop where
 g:yjg s
 some:0<s.paths.length
 part:1<=s.config.part
 part2:s.config.part<2 ^ 30
 msg:∀ m∈s.queue,zsx s m
def nx (s:zab) (o:List (List Chunk)):zgj×Bool:=match next ⟨s,o⟩ with
 | none=>(⟨s,o⟩,false)
 | some q=>(q,true)
theorem ytd {s:zab} {o:List (List Chunk)} (h:zdi s<0):nx s o=(⟨s,o⟩,false):=by
 rw [nx,next,zy1 (.inl h)]
theorem yte {s:zab} {o:List (List Chunk)} {w:Path} (hw:s.paths[choose s]?=some w) (h:¬ w.zak<w.window):nx s o=(⟨s,o⟩,false):=by
 rw [nx,next,zy1 (.inr (.inl (by simp only [opened,hw];simpa using h)))]
theorem ytf {s:zab} {o:List (List Chunk)} (h:(s.out.length:Int)>=60):nx s o=(⟨s,o⟩,false):=by
 rw [nx,next,zy1 (.inr (.inr h))]
theorem ytg {s:zab} {o:List (List Chunk)} {w:Path} {k:Nat} {m:zaf} (h1:zdi s=k) (hm:s.queue[k]?=some m) (hw:s.paths[choose s]?=some w) (h2:w.zak<w.window) (h3:¬ (s.out.length:Int)>=60) (h4:zak s>0/\W (zak s+many s m)>s.room) :
 nx s o=(⟨s,o⟩,false):=by
 rw [nx,next,zy0 (by rw [h1];rintro (h | h | h);omega;(simp only [opened,hw] at h;simp at h;omega);exact h3 h)];simp only [h1,zy40,hm];rw [zy1 h4]
theorem zxo {s:zab} {o:List (List Chunk)} {w:Path} {k:Nat} {m:zaf} (h1:zdi s=k) (hm:s.queue[k]?=some m) (hw:s.paths[choose s]?=some w) (h2:w.zak<w.window) (h3:¬ (s.out.length:Int)>=60) (h4:¬ (zak s>0/\W (zak s+many s m)>s.room)) :
 nx s o=(yih ⟨s,o⟩ k m (many s m),true):=by
 rw [nx,next,zy0 (by rw [h1];rintro (h | h | h);omega;(simp only [opened,hw] at h;simp at h;omega);exact h3 h)];simp only [h1,zy40,hm];rw [zy0 h4]
theorem zuj {s:zab} {m:zaf} (hp:1<=s.config.part) (hp2:s.config.part<2 ^ 30) (_:0<=m.sent) (h2:m.sent<m.message.data.length) (_:m.message.data.length<2 ^ 30):1<=many s m/\many s m<2 ^ 30/\m.sent+many s m<=m.message.data.length:=by
 unfold many;split<;>omega
abbrev ovr (s:zab) (m:zaf):Bool:=m.sent+many s m==((m.message.data.map zdu).length:Int)
theorem xba (s:zab) (m:zaf):decide (m.sent+many s m=m.message.data.length)=ovr s m:=by
 unfold ovr;rw [zy2,zy143];simp
def m2 (s:zab) (m:zaf):zaf:={m with mid:=zcd s m,sent:=m.sent+many s m,parts:=W (m.parts+1)}
def x0 (s:zab) (m:zaf):zbr:=⟨s.next,m.id,0,0,0,0,m.came,m.message.life,m.message.tries,⟨1,tag s.next,m.message.stream,tag (zcd s m),m.parts,ovr s m,m.message.ordered,(m.message.data.drop m.sent.toNat).take (many s m).toNat,[],0,[]⟩⟩
def s2 (s:zab) (k:Nat) (m:zaf):zab:={s with mids:=zdp s m,sched:=Sch.had s.sched {m with mid:=zcd s m} (many s m) (ovr s m),out:=s.out++[x0 s m],next:=W (s.next+1),queue:=s.queue.set k (m2 s m)}
theorem zff {s:zab} {o:List (List Chunk)} {k c:Nat} {m:zaf} {w:Path} {l:List Chunk} (hc:choose s=c) (hw:s.paths[c]?=some w) (hl:o[c]?=some l) :
 yih ⟨s,o⟩ k m (many s m)=⟨{ycp (s2 s k m) s.out.length c (x0 s m) w with queue:=if ovr s m then s.queue.eraseIdx k else s.queue.set k (m2 s m)},o.set c (l++[(x0 s m).chunk])⟩:=by
 have e:=xba s m;unfold yih cut;simp only [e];rw [hc];exact xal (s:={s2 s k m with queue:=if ovr s m then s.queue.eraseIdx k else s.queue.set k (m2 s m)}) (i:=s.out.length) (x:=x0 s m) (a:=w) (l:=l) zz77 hw hl
theorem you {s:zab} {k:Nat} {m:zaf} {t:TypeId} {r1:List PV}:zad.live (.row t 10 ((((zhx s k m).queue.map zaf.row).set k r1).set k (m2 s m).row))=zad.live (.row t 10 ((s2 s k m).queue.map zaf.row)):=by
 rw [zy148];exact (zes (f:=zaf.row) (y:=m2 s m) rfl).trans (zaq (by show ((s.queue.set k _).set k _).map _=_;rw [zy148];rfl))
theorem zji {α:Type} {l:List α} {k:Nat} {y:α} (_:k<l.length):(l.set k y).take k++(l.set k y).drop (k+1)=l.eraseIdx k:=by
 rw [zy88,List.take_set_of_le (zy22 _),List.drop_set_of_lt (zy158 _)]
theorem zqt (s:zab) (a:List Chunk) (hs:xfo s) (h1p:s.paths.length=1) (hb:a.length<2 ^ 29):zao Tryz.prog 96 [.ptr 1000 0] (lk .free (pH1 s a)) (zbk (nx s [a]).2) (lk .free (pD1 (nx s [a]).1.s (xav (nx s [a]).1.out))):=by
 obtain ⟨g,hp,hp1,hp2,hmsg⟩:=hs;obtain ⟨⟨f1,f2,f3,f4,f5,f6,f7⟩,g2,g3,g4⟩:=g;obtain ⟨hch,hch2⟩:=zee hp;have hc0:choose s=0:=by omega
 have pc:=Paths.zeg s.paths zz0;rw [hch,hc0] at pc;have pn:=Sch.zvi s.config.turns s.sched s.queue zz0 zz0;obtain ⟨w,hw⟩:∃ w,s.paths[0]?=some w:=⟨_,zy3 zz0⟩
 have hwc:s.paths[choose s]?=some w:=by rw [hc0];exact hw
 generalize hG:nx s [a]=G;refine zan mixed Tryz.func96 zz5 [1000,1001,1002,1003,1004,1005,1006,1007,1008] zbi ?_;(conv=>whnf)
 (refine cL ?_;refine dL pc ?_)
 by_cases c1:zdi s<0
 case pos =>
  (refine cL ?_;refine dL pn ?_)
  refine sD ?_;refine zai ?_ ?_
  . exact zy16 c1
  (conv=>whnf);rw [ytd c1] at hG;exact yy20
 obtain ⟨k,hkl,hke⟩:=yje (t:=s.config.turns) (s:=s.sched) (q:=s.queue) zz89;have hke':zdi s=k:=hke;rw [hke] at pn;obtain ⟨m,hm⟩:∃ m,s.queue[k]?=some m:=⟨_,zy3 hkl⟩
 have hmf:=hmsg m (zy12 hm);obtain ⟨mf,mh,ms,ml,md⟩:=hmf;obtain ⟨n1,n2,n3⟩:=zuj (s:=s) (m:=m) hp1 hp2 ms ml md
 (refine cL ?_;refine dL pn ?_)
 refine sD ?_
 try (refine zag ?_ ?_;· simp;conv=>whnf)
 refine sOm ?_;refine zaj hw rfl (zw ?_)
 (refine cL ?_;refine dL (Paths.zjw w) ?_)
 by_cases c2:w.zak<w.window
 case neg =>
  refine zai ?_ ?_
  . simpa using c2
  (conv=>whnf);rw [yte hwc c2] at hG;exact yy20
 refine zag ?_ ?_
 . simpa using c2
 (conv=>whnf);by_cases c3:(s.out.length:Int)>=60
 case pos =>
  refine zai ?_ ?_
  . rw [zy2];exact zy16 c3
  (conv=>whnf);rw [ytf c3] at hG;exact yy20
 refine zag ?_ ?_
 . rw [zy2];exact zy19 c3
 conv=>whnf
 repeat refine sG ?_
 refine sOm ?_;refine zaj hm rfl (zw ?_);refine zaj hm rfl (zw ?_);refine zbl (z':=(m.message.data.length:Int)-m.sent) ?_ ?_
 . show W _=_
   rw [zy2];exact zbh zz0 zz0
 (conv=>whnf);refine sD ?_
 (refine zac [] [(1000,1000),(1001,1001),(1002,1002),(1003,1003),(1004,1004),(1005,1005),(1006,1006),(1007,1007),(1008,1008)] [] ?_;(conv=>whnf);refine dG (yfq s a f4) ?_)
 have hWs:W (m.sent+many s m)=m.sent+many s m:=zbh zz0 zz0;by_cases c4:zak s>0
 case pos =>
  refine zai ?_ ?_
  . exact zy16 c4
  (conv=>whnf);refine sR ?_;by_cases c5:W (zak s+many s m)>s.room
  case pos =>
   refine zai ?_ ?_
   . exact zy16 c5
   (conv=>whnf);rw [ytg hke' hm hwc c2 c3 ⟨c4,c5⟩] at hG;exact yy20
  refine zag ?_ ?_
  . exact zy19 c5
  conv=>whnf
  repeat refine sG ?_
  rw [zxo hke' hm hwc c2 c3 fun h=>c5 h.2] at hG;exact yy2
 refine zag ?_ ?_
 . exact zy19 c4
 conv=>whnf
 repeat refine sG ?_
 rw [zxo hke' hm hwc c2 c3 fun h=>c4 h.1] at hG;exact yy2
end Snd
namespace Snd
open Ser
theorem yfv (s:zab) (a b:List Chunk) (hs:xfo s) (h1p:s.paths.length=2) (hc0:choose s=0) (hb:a.length+b.length<2 ^ 29):zao Tryz.prog 96 [.ptr 1000 0] (lk .free (pH2 s a b)) (zbk (nx s [a,b]).2) (lk .free (pD2 (nx s [a,b]).1.s (xav (nx s [a,b]).1.out) (xgo (nx s [a,b]).1.out))):=by
 obtain ⟨g,hp,hp1,hp2,hmsg⟩:=hs;obtain ⟨⟨f1,f2,f3,f4,f5,f6,f7⟩,g2,g3,g4⟩:=g;obtain ⟨hch,hch2⟩:=zee hp;have pc:=Paths.zeg s.paths zz0;rw [hch,hc0] at pc;have pn:=Sch.zvi s.config.turns s.sched s.queue zz0 zz0;obtain ⟨w,hw⟩:∃ w,s.paths[0]?=some w:=⟨_,zy3 zz0⟩
 have hwc:s.paths[choose s]?=some w:=by rw [hc0];exact hw
 generalize hG:nx s [a,b]=G;refine zan mixed Tryz.func96 zz5 [1000,1001,1002,1003,1004,1005,1006,1007,1008,1009] zbi ?_;(conv=>whnf)
 (refine cL ?_;refine dL pc ?_)
 by_cases c1:zdi s<0
 case pos =>
  (refine cL ?_;refine dL pn ?_)
  refine sD ?_;refine zai ?_ ?_
  . exact zy16 c1
  (conv=>whnf);rw [ytd c1] at hG;exact yy8
 obtain ⟨k,hkl,hke⟩:=yje (t:=s.config.turns) (s:=s.sched) (q:=s.queue) zz89;have hke':zdi s=k:=hke;rw [hke] at pn;obtain ⟨m,hm⟩:∃ m,s.queue[k]?=some m:=⟨_,zy3 hkl⟩
 have hmf:=hmsg m (zy12 hm);obtain ⟨mf,mh,ms,ml,md⟩:=hmf;obtain ⟨n1,n2,n3⟩:=zuj (s:=s) (m:=m) hp1 hp2 ms ml md
 (refine cL ?_;refine dL pn ?_)
 refine sD ?_
 try (refine zag ?_ ?_;· simp;conv=>whnf)
 refine sOm ?_;refine zaj hw rfl (zw ?_)
 (refine cL ?_;refine dL (Paths.zjw w) ?_)
 by_cases c2:w.zak<w.window
 case neg =>
  refine zai ?_ ?_
  . simpa using c2
  (conv=>whnf);rw [yte hwc c2] at hG;exact yy8
 refine zag ?_ ?_
 . simpa using c2
 (conv=>whnf);by_cases c3:(s.out.length:Int)>=60
 case pos =>
  refine zai ?_ ?_
  . rw [zy2];exact zy16 c3
  (conv=>whnf);rw [ytf c3] at hG;exact yy8
 refine zag ?_ ?_
 . rw [zy2];exact zy19 c3
 conv=>whnf
 repeat refine sG ?_
 refine sOm ?_;refine zaj hm rfl (zw ?_);refine zaj hm rfl (zw ?_);refine zbl (z':=(m.message.data.length:Int)-m.sent) ?_ ?_
 . show W _=_
   rw [zy2];exact zbh zz0 zz0
 (conv=>whnf);refine sD ?_
 (refine zac [] [(1000,1000),(1001,1001),(1002,1002),(1003,1003),(1004,1004),(1005,1005),(1006,1006),(1007,1007),(1008,1008),(1009,1009)] [] ?_;(conv=>whnf);refine dG (zrw s a b f4) ?_)
 have hWs:W (m.sent+many s m)=m.sent+many s m:=zbh zz0 zz0;by_cases c4:zak s>0
 case pos =>
  refine zai ?_ ?_
  . exact zy16 c4
  (conv=>whnf);refine sR ?_;by_cases c5:W (zak s+many s m)>s.room
  case pos =>
   refine zai ?_ ?_
   . exact zy16 c5
   (conv=>whnf);rw [ytg hke' hm hwc c2 c3 ⟨c4,c5⟩] at hG;exact yy8
  refine zag ?_ ?_
  . exact zy19 c5
  conv=>whnf
  repeat refine sG ?_
  rw [zxo hke' hm hwc c2 c3 fun h=>c5 h.2] at hG;exact yy0
 refine zag ?_ ?_
 . exact zy19 c4
 conv=>whnf
 repeat refine sG ?_
 rw [zxo hke' hm hwc c2 c3 fun h=>c4 h.1] at hG;exact yy0
end Snd
namespace Snd
open Ser
theorem yfw (s:zab) (a b:List Chunk) (hs:xfo s) (h1p:s.paths.length=2) (hc0:choose s=1) (hb:a.length+b.length<2 ^ 29):zao Tryz.prog 96 [.ptr 1000 0] (lk .free (pH2 s a b)) (zbk (nx s [a,b]).2) (lk .free (pD2 (nx s [a,b]).1.s (xav (nx s [a,b]).1.out) (xgo (nx s [a,b]).1.out))):=by
 obtain ⟨g,hp,hp1,hp2,hmsg⟩:=hs;obtain ⟨⟨f1,f2,f3,f4,f5,f6,f7⟩,g2,g3,g4⟩:=g;obtain ⟨hch,hch2⟩:=zee hp;have pc:=Paths.zeg s.paths zz0;rw [hch,hc0] at pc;have pn:=Sch.zvi s.config.turns s.sched s.queue zz0 zz0;obtain ⟨w,hw⟩:∃ w,s.paths[1]?=some w:=⟨_,zy3 zz0⟩
 have hwc:s.paths[choose s]?=some w:=by rw [hc0];exact hw
 generalize hG:nx s [a,b]=G;refine zan mixed Tryz.func96 zz5 [1000,1001,1002,1003,1004,1005,1006,1007,1008,1009] zbi ?_;(conv=>whnf)
 (refine cL ?_;refine dL pc ?_)
 by_cases c1:zdi s<0
 case pos =>
  (refine cL ?_;refine dL pn ?_)
  refine sD ?_;refine zai ?_ ?_
  . exact zy16 c1
  (conv=>whnf);rw [ytd c1] at hG;exact yy8
 obtain ⟨k,hkl,hke⟩:=yje (t:=s.config.turns) (s:=s.sched) (q:=s.queue) zz89;have hke':zdi s=k:=hke;rw [hke] at pn;obtain ⟨m,hm⟩:∃ m,s.queue[k]?=some m:=⟨_,zy3 hkl⟩
 have hmf:=hmsg m (zy12 hm);obtain ⟨mf,mh,ms,ml,md⟩:=hmf;obtain ⟨n1,n2,n3⟩:=zuj (s:=s) (m:=m) hp1 hp2 ms ml md
 (refine cL ?_;refine dL pn ?_)
 refine sD ?_
 try (refine zag ?_ ?_;· simp;conv=>whnf)
 refine sOm ?_;refine zaj hw rfl (zw ?_)
 (refine cL ?_;refine dL (Paths.zjw w) ?_)
 by_cases c2:w.zak<w.window
 case neg =>
  refine zai ?_ ?_
  . simpa using c2
  (conv=>whnf);rw [yte hwc c2] at hG;exact yy8
 refine zag ?_ ?_
 . simpa using c2
 (conv=>whnf);by_cases c3:(s.out.length:Int)>=60
 case pos =>
  refine zai ?_ ?_
  . rw [zy2];exact zy16 c3
  (conv=>whnf);rw [ytf c3] at hG;exact yy8
 refine zag ?_ ?_
 . rw [zy2];exact zy19 c3
 conv=>whnf
 repeat refine sG ?_
 refine sOm ?_;refine zaj hm rfl (zw ?_);refine zaj hm rfl (zw ?_);refine zbl (z':=(m.message.data.length:Int)-m.sent) ?_ ?_
 . show W _=_
   rw [zy2];exact zbh zz0 zz0
 (conv=>whnf);refine sD ?_
 (refine zac [] [(1000,1000),(1001,1001),(1002,1002),(1003,1003),(1004,1004),(1005,1005),(1006,1006),(1007,1007),(1008,1008),(1009,1009)] [] ?_;(conv=>whnf);refine dG (zrw s a b f4) ?_)
 have hWs:W (m.sent+many s m)=m.sent+many s m:=zbh zz0 zz0;by_cases c4:zak s>0
 case pos =>
  refine zai ?_ ?_
  . exact zy16 c4
  (conv=>whnf);refine sR ?_;by_cases c5:W (zak s+many s m)>s.room
  case pos =>
   refine zai ?_ ?_
   . exact zy16 c5
   (conv=>whnf);rw [ytg hke' hm hwc c2 c3 ⟨c4,c5⟩] at hG;exact yy8
  refine zag ?_ ?_
  . exact zy19 c5
  conv=>whnf
  repeat refine sG ?_
  rw [zxo hke' hm hwc c2 c3 fun h=>c5 h.2] at hG;exact yy1
 refine zag ?_ ?_
 . exact zy19 c4
 conv=>whnf
 repeat refine sG ?_
 rw [zxo hke' hm hwc c2 c3 fun h=>c4 h.1] at hG;exact yy1
theorem yph (s:zab) (a b:List Chunk) (hs:xfo s) (h1p:s.paths.length=2) (hb:a.length+b.length<2 ^ 29):zao Tryz.prog 96 [.ptr 1000 0] (lk .free (pH2 s a b)) (zbk (nx s [a,b]).2) (lk .free (pD2 (nx s [a,b]).1.s (xav (nx s [a,b]).1.out) (xgo (nx s [a,b]).1.out))):=by
 have hc01:choose s=0\/choose s=1:=by have:=(zee hs.some).2;omega
 exact hc01.elim (fun h=>yfv s a b hs h1p h hb) fun h=>yfw s a b hs h1p h hb
end Snd
namespace Snd
open Ser
abbrev zjq (l:List zbb):zad:=.live (.row 110 3 (l.map zbb.row))
abbrev roK (l:List Chunk):zad:=.ro (.row 61 11 (l.map Chunk.row))
def xil (id:Nat):List Chunk->List Chunk->HV
 | [],_=>.own id
 | _::a,b=>.osl id 11 (a.length+1) b.length
theorem zon {α:Type} {f:α->List PV} {l a b c:List α} {o n:Nat} {K:List (List PV)->Prop} (h:l=a++b++c) (ho:o=a.length) (hn:n=b.length) (hk:K (b.map f)):zrk (l.map f) o n K:=by
 subst h ho hn;refine ⟨_,rfl,by simp,?_⟩
 rwa [<- zy101,<- zy119,zy33,zy111,zy152]
theorem zhd {i s o o' n n':Nat} (ho:o=o') (hn:n=n'):HV.osl i s o n=.osl i s o' n':=by rw [ho,hn]
theorem yip {most:Int} {l:List Chunk} (h:l≠[]):∃ k:Nat,zce most l=k/\1<=k/\k<=l.length:=by
 obtain ⟨r,h1,h2,-⟩:=Pck.xcu l most;have h3:=zy32.2 h;have h4:=h2.1;unfold zce;rw [h1];split
 . exact ⟨1,rfl,by omega,by omega⟩
 . exact ⟨r,rfl,by omega,by omega⟩
theorem zup (most path:Int) (n:Nat):zgm most path n []=[]:=by cases n<;>simp [zgm]
def Okc (c:Chunk):Prop:=c.zau.length<2 ^ 38/\c.zbw.length<2 ^ 38
abbrev pE1 (s:zab) (ps:List zbb):List (Nat×zad):=(1000,.live (.cells 139 (ywb s (.own 1001) (.own 1002) (.own 1003) (.own 1004) (.own 1005) (.own 1006) (.own 1007))))::zya s 1001 1002 1003 1004 1005 1006 [(1007,.dead),(1008,.dead),(0,zjq ps)]
abbrev pR1 (s:zab) (a:List Chunk) (L:List (Nat×zad)):List (Nat×zad):=(1000,.live (.cells 139 (ywb s (.own 1001) (.own 1002) (.own 1003) (.own 1004) (.own 1005) (.own 1006) (.own 1007))))::zya s 1001 1002 1003 1004 1005 1006 ((1007,.live (.cells 145 [.own 1008]))::(1008,roK a)::L)
abbrev pE2 (s:zab) (ps:List zbb):List (Nat×zad):=(1000,.live (.cells 139 (ywb s (.own 1001) (.own 1002) (.own 1003) (.own 1004) (.own 1005) (.own 1006) (.own 1007))))::zya s 1001 1002 1003 1004 1005 1006 [(1007,.dead),(1008,.dead),(1009,.dead),(0,zjq ps)]
abbrev pR2 (s:zab) (a b:List Chunk) (L:List (Nat×zad)):List (Nat×zad):=(1000,.live (.cells 139 (ywb s (.own 1001) (.own 1002) (.own 1003) (.own 1004) (.own 1005) (.own 1006) (.own 1007))))::zya s 1001 1002 1003 1004 1005 1006 ((1007,.live (.cells 145 [.own 1008,.own 1009]))::(1008,roK a)::(1009,roK b)::L)
theorem ybd (s:zab) (a:List Chunk) (hm:inI s.config.packet) (ha:a.length<2 ^ 29) (hka:∀ c∈a,Okc c):zao Tryz.prog 97 [.ptr 1000 0] (lk .free (pH1 s a)) (.own 0) (lk .free (pE1 s (zbx s.config.packet 0 [a]))):=by
 generalize hT:zbx s.config.packet 0 [a]=T;refine zan mixed Tryz.func97 zz5 [1000,1001,1002,1003,1004,1005,1006,1007,1008] zbi ?_;(conv=>whnf);refine ⟨{x:Nat×List zbb // x.1<=1/\x.2.length<=x.1*2 ^ 29/\x.2++zbx s.config.packet x.1 ([a].drop x.1)=T},
  fun | ⟨(i,acc),_⟩=>hsP [1000,1001,1002,1003,1004,1005,1006,1007,1008] 57 [(0,.ptr 1000 0),(3,.own 900),(12,.own 1007),(13,i64 1),(14,i64 i)] (pR1 s a [(900,zjq acc)]),fun x=>1-x.1.1,⟨(0,[]),by dsimp only;omega,by simp,hT⟩,?_,?_⟩
 . exact (zcx (pK9 [(900,none)]))
 rintro ⟨⟨i,acc⟩,k1,k3,k2⟩;dsimp only at k1 k2 k3;refine zht fun Q hQ=>?_
 have hi:i=0\/i=1:=by omega
 rcases hi with rfl | rfl
 case inl =>
  have hdr:zbx s.config.packet 0 ([a].drop 0)=zgm s.config.packet 0 a.length a++zbx s.config.packet (0+1) ([a].drop (0+1)):=rfl;rw [hdr] at k2;(conv=>whnf);refine ⟨0,rfl,by decide,zw ?_⟩;refine ⟨{x:(List Chunk×List Chunk)×Nat×List zbb // a=x.1.1++x.1.2/\x.1.2.length<=x.2.1/\x.2.2.length+x.1.2.length<=(0+1)*2 ^ 29/\x.2.2++(zgm s.config.packet 0 x.2.1 x.1.2++zbx s.config.packet (0+1) ([a].drop (0+1)))=T},
   fun | ⟨((A,B),n,acc),_⟩=>hsP [1000,1001,1002,1003,1004,1005,1006,1007,1008] 57 [(0,.ptr 1000 0),(3,.own 900),(4,i64 0),(5,xil 1008 A B),(12,.own 1007),(13,i64 1),(14,i64 0)] (pR1 s a [(900,zjq acc)]),fun x=>x.1.1.2.length,⟨(([],a),a.length,acc),rfl,by simp,by dsimp only;omega,k2⟩,?_,?_⟩
  . exact (zcx (pK9 [(900,some 900)]))
  rintro ⟨⟨⟨A,B⟩,n,acc⟩,i1,i2,i4,i3⟩;dsimp only at i1 i2 i3 i4;refine zht fun Q2 hQ2=>?_
  have hz:a.length=A.length+B.length:=by rw [i1];simp
  have hko:∀ c∈a,Okc c:=hka;by_cases hB:B=[]
  case pos =>
   subst hB;rw [zup,zy92] at i3;rw [zy14] at hz;cases A with
   | nil =>
    (conv=>whnf);have ha0:a=[]:=zy21 zz92;refine zag ?_ ?_
    . simp [ha0]
    exact yy46
   | cons t A =>
    exact yy46
  case neg =>
  obtain ⟨r,r1,r2,r3⟩:=yip (most:=s.config.packet) hB;have hBl:=zy32.2 hB;obtain ⟨n,rfl⟩:∃ n',n=n'+1:=⟨n-1,by omega⟩
  have hN:zgm s.config.packet 0 (n+1) B=zmt s.config.packet 0 B++zgm s.config.packet 0 n (B.drop r):=by rw [zgm,zy0 hB,r1,zy40]
  have hP:zmt s.config.packet 0 B=if (Pck.zde (B.take r) s.config.packet).2=0 then [⟨0,false,(Pck.zde (B.take r) s.config.packet).1⟩] else []:=by rw [zmt,r1,zy40]
  have hsz:Pck.zgb B:=⟨by omega,fun c hc=>hko c zz62⟩
  have hszr:Pck.zgb (B.take r):=hsz.take r;rw [hN,zy33] at i3;cases A with
  | nil =>
   have i1':B=a:=i1.symm;subst i1';(conv=>whnf);refine sT ?_
   repeat refine sG ?_
   (refine cL ?_;refine dL (Pck.zml B s.config.packet hsz hm) ?_)
   refine zaa (c:=(0:Int)<=0/\(0:Int)<=zce s.config.packet B/\zce s.config.packet B<=((B.map Chunk.row).length:Int)) ⟨by omega,by omega,by rw [zy2];omega⟩ (zw ?_);refine zel (zw ?_);refine zon (a:=[]) (b:=B.take r) (c:=B.drop r) zz4 rfl (show (zce s.config.packet B-0).toNat=_ by rw [r1];simp;omega) ?_;(conv=>whnf);refine ⟨_,Pck.zfv (B.take r) s.config.packet hszr,rfl,zw ?_⟩;refine sD ?_;by_cases ho:(Pck.zde (B.take r) s.config.packet).2=0
   case pos =>
    rw [zy1 ho] at hP;refine zai ?_ ?_
    . simpa using ho
    (conv=>whnf);refine zaa (c:=((acc.map zbb.row).length+1)*40<=140737488355328) zz15 (zw ?_)
    repeat refine sG ?_
    refine zaa (c:=(0:Int)<=zce s.config.packet B/\zce s.config.packet B<=((B.map Chunk.row).length:Int)/\((B.map Chunk.row).length:Int)<=((B.map Chunk.row).length:Int)) ⟨by omega,by rw [zy2];omega,by omega⟩ (zw ?_);obtain ⟨x,B1,hx⟩:∃ x B1,B.take r=x::B1:=by
     exact yy15
    have hxl:B1.length+1=r:=by have:=congrArg List.length hx;simp at this;omega
    refine hQ2 _ _ (zw ?_);exact ⟨⟨((x::B1,B.drop r),n,acc++[⟨0,false,(Pck.zde (B.take r) s.config.packet).1⟩]),by rw [<- hx,zy25],by simp;omega,by simp;omega,by rw [<- i3,hP];simp⟩,(zbu (pK9 [(900,some 51)]) zz7),by simp;omega⟩
   case neg =>
    rw [zy0 ho] at hP;refine zag ?_ ?_
    . simpa using ho
    conv=>whnf
    repeat refine sG ?_
    refine zaa (c:=(0:Int)<=zce s.config.packet B/\zce s.config.packet B<=((B.map Chunk.row).length:Int)/\((B.map Chunk.row).length:Int)<=((B.map Chunk.row).length:Int)) ⟨by omega,by rw [zy2];omega,by omega⟩ (zw ?_);obtain ⟨x,B1,hx⟩:∃ x B1,B.take r=x::B1:=by
     exact yy15
    have hxl:B1.length+1=r:=by have:=congrArg List.length hx;simp at this;omega
    refine hQ2 _ _ (zw ?_);exact ⟨⟨((x::B1,B.drop r),n,acc),by rw [<- hx,zy25],by simp;omega,by simp;omega,by rw [<- i3,hP];simp⟩,(zbu (pK9 [(900,some 900)]) zz7),by simp;omega⟩
  | cons t A =>
   have hal:(A.length:Int)+1=((t::A).length:Nat):=by simp
   (conv=>whnf);refine sT ?_
   repeat refine sG ?_
   refine zbm (zw ?_);refine zon (a:=t::A) (b:=B) (c:=[]) zz74 rfl rfl ?_;(conv=>whnf);refine ⟨_,Pck.zml B s.config.packet hsz hm,rfl,zw ?_⟩
   repeat refine sG ?_
   refine zaa (c:=(0:Int)<=zce s.config.packet B/\((A.length+1:Nat):Int)+zce s.config.packet B<=((a.map Chunk.row).length:Int)) ⟨by omega,by rw [zy2,hz,zy5];omega⟩ (zw ?_);refine zel (zw ?_);refine zon (a:=t::A) (b:=B.take r) (c:=B.drop r) zz74 rfl (show (zce s.config.packet B).toNat=_ by rw [r1];simp;omega) ?_;(conv=>whnf);refine ⟨_,Pck.zfv (B.take r) s.config.packet hszr,rfl,zw ?_⟩;refine sD ?_;by_cases ho:(Pck.zde (B.take r) s.config.packet).2=0
   case pos =>
    rw [zy1 ho] at hP;refine zai ?_ ?_
    . simpa using ho
    (conv=>whnf);refine zaa (c:=((acc.map zbb.row).length+1)*40<=140737488355328) zz15 (zw ?_)
    repeat refine sG ?_
    refine zaa (c:=(0:Int)<=zce s.config.packet B/\zce s.config.packet B<=(B.length:Int)/\((A.length+1:Nat):Int)+(B.length:Int)<=((a.map Chunk.row).length:Int)) ⟨by omega,by omega,by rw [zy2,hz,zy5];omega⟩ (zw ?_);refine hQ2 _ _ (zw ?_);exact ⟨⟨((t::(A++B.take r),B.drop r),n,acc++[⟨0,false,(Pck.zde (B.take r) s.config.packet).1⟩]),by rw [i1];simp,by simp;omega,by simp;omega,by rw [<- i3,hP];simp⟩,(zbu (pK9 [(900,some 51)]) zz6),by simp;omega⟩
   case neg =>
    rw [zy0 ho] at hP;refine zag ?_ ?_
    . simpa using ho
    conv=>whnf
    repeat refine sG ?_
    refine zaa (c:=(0:Int)<=zce s.config.packet B/\zce s.config.packet B<=(B.length:Int)/\((A.length+1:Nat):Int)+(B.length:Int)<=((a.map Chunk.row).length:Int)) ⟨by omega,by omega,by rw [zy2,hz,zy5];omega⟩ (zw ?_);refine hQ2 _ _ (zw ?_);exact ⟨⟨((t::(A++B.take r),B.drop r),n,acc),by rw [i1];simp,by simp;omega,by simp;omega,by rw [<- i3,hP];simp⟩,(zbu (pK9 [(900,some 900)]) zz6),by simp;omega⟩
 case inr =>
  have k2:acc=T:=by rw [<- k2];simp [zbx]
  subst k2;(conv=>whnf);refine hQ _ _ ?_;conv=>whnf
  (exact zby (pK9 [(0,some 900)]))
theorem ybe (s:zab) (a b:List Chunk) (hm:inI s.config.packet) (ha:a.length<2 ^ 29) (hb:b.length<2 ^ 29) (hka:∀ c∈a,Okc c) (hkb:∀ c∈b,Okc c):zao Tryz.prog 97 [.ptr 1000 0] (lk .free (pH2 s a b)) (.own 0) (lk .free (pE2 s (zbx s.config.packet 0 [a,b]))):=by
 generalize hT:zbx s.config.packet 0 [a,b]=T;refine zan mixed Tryz.func97 zz5 [1000,1001,1002,1003,1004,1005,1006,1007,1008,1009] zbi ?_;(conv=>whnf);refine ⟨{x:Nat×List zbb // x.1<=2/\x.2.length<=x.1*2 ^ 29/\x.2++zbx s.config.packet x.1 ([a,b].drop x.1)=T},
  fun | ⟨(i,acc),_⟩=>hsP [1000,1001,1002,1003,1004,1005,1006,1007,1008,1009] 57 [(0,.ptr 1000 0),(3,.own 900),(12,.own 1007),(13,i64 2),(14,i64 i)] (pR2 s a b [(900,zjq acc)]),fun x=>2-x.1.1,⟨(0,[]),by dsimp only;omega,by simp,hT⟩,?_,?_⟩
 . exact (zcx (zhf [(900,none)]))
 rintro ⟨⟨i,acc⟩,k1,k3,k2⟩;dsimp only at k1 k2 k3;refine zht fun Q hQ=>?_
 have hi:i=0\/i=1\/i=2:=by omega
 rcases hi with rfl | rfl | rfl
 case inl =>
  have hdr:zbx s.config.packet 0 ([a,b].drop 0)=zgm s.config.packet 0 a.length a++zbx s.config.packet (0+1) ([a,b].drop (0+1)):=rfl;rw [hdr] at k2;(conv=>whnf);refine ⟨0,rfl,by decide,zw ?_⟩;refine ⟨{x:(List Chunk×List Chunk)×Nat×List zbb // a=x.1.1++x.1.2/\x.1.2.length<=x.2.1/\x.2.2.length+x.1.2.length<=(0+1)*2 ^ 29/\x.2.2++(zgm s.config.packet 0 x.2.1 x.1.2++zbx s.config.packet (0+1) ([a,b].drop (0+1)))=T},
   fun | ⟨((A,B),n,acc),_⟩=>hsP [1000,1001,1002,1003,1004,1005,1006,1007,1008,1009] 57 [(0,.ptr 1000 0),(3,.own 900),(4,i64 0),(5,xil 1008 A B),(12,.own 1007),(13,i64 2),(14,i64 0)] (pR2 s a b [(900,zjq acc)]),fun x=>x.1.1.2.length,⟨(([],a),a.length,acc),rfl,by simp,by dsimp only;omega,k2⟩,?_,?_⟩
  . exact (zcx (zhf [(900,some 900)]))
  rintro ⟨⟨⟨A,B⟩,n,acc⟩,i1,i2,i4,i3⟩;dsimp only at i1 i2 i3 i4;refine zht fun Q2 hQ2=>?_
  have hz:a.length=A.length+B.length:=by rw [i1];simp
  have hko:∀ c∈a,Okc c:=hka;by_cases hB:B=[]
  case pos =>
   subst hB;rw [zup,zy92] at i3;rw [zy14] at hz;cases A with
   | nil =>
    (conv=>whnf);have ha0:a=[]:=zy21 zz92;refine zag ?_ ?_
    . simp [ha0]
    exact yy47
   | cons t A =>
    exact yy47
  case neg =>
  obtain ⟨r,r1,r2,r3⟩:=yip (most:=s.config.packet) hB;have hBl:=zy32.2 hB;obtain ⟨n,rfl⟩:∃ n',n=n'+1:=⟨n-1,by omega⟩
  have hN:zgm s.config.packet 0 (n+1) B=zmt s.config.packet 0 B++zgm s.config.packet 0 n (B.drop r):=by rw [zgm,zy0 hB,r1,zy40]
  have hP:zmt s.config.packet 0 B=if (Pck.zde (B.take r) s.config.packet).2=0 then [⟨0,false,(Pck.zde (B.take r) s.config.packet).1⟩] else []:=by rw [zmt,r1,zy40]
  have hsz:Pck.zgb B:=⟨by omega,fun c hc=>hko c zz62⟩
  have hszr:Pck.zgb (B.take r):=hsz.take r;rw [hN,zy33] at i3;cases A with
  | nil =>
   have i1':B=a:=i1.symm;subst i1';(conv=>whnf);refine sT ?_
   repeat refine sG ?_
   (refine cL ?_;refine dL (Pck.zml B s.config.packet hsz hm) ?_)
   refine zaa (c:=(0:Int)<=0/\(0:Int)<=zce s.config.packet B/\zce s.config.packet B<=((B.map Chunk.row).length:Int)) ⟨by omega,by omega,by rw [zy2];omega⟩ (zw ?_);refine zel (zw ?_);refine zon (a:=[]) (b:=B.take r) (c:=B.drop r) zz4 rfl (show (zce s.config.packet B-0).toNat=_ by rw [r1];simp;omega) ?_;(conv=>whnf);refine ⟨_,Pck.zfv (B.take r) s.config.packet hszr,rfl,zw ?_⟩;refine sD ?_;by_cases ho:(Pck.zde (B.take r) s.config.packet).2=0
   case pos =>
    rw [zy1 ho] at hP;refine zai ?_ ?_
    . simpa using ho
    (conv=>whnf);refine zaa (c:=((acc.map zbb.row).length+1)*40<=140737488355328) zz15 (zw ?_)
    repeat refine sG ?_
    refine zaa (c:=(0:Int)<=zce s.config.packet B/\zce s.config.packet B<=((B.map Chunk.row).length:Int)/\((B.map Chunk.row).length:Int)<=((B.map Chunk.row).length:Int)) ⟨by omega,by rw [zy2];omega,by omega⟩ (zw ?_);obtain ⟨x,B1,hx⟩:∃ x B1,B.take r=x::B1:=by
     exact yy15
    have hxl:B1.length+1=r:=by have:=congrArg List.length hx;simp at this;omega
    refine hQ2 _ _ (zw ?_);exact ⟨⟨((x::B1,B.drop r),n,acc++[⟨0,false,(Pck.zde (B.take r) s.config.packet).1⟩]),by rw [<- hx,zy25],by simp;omega,by simp;omega,by rw [<- i3,hP];simp⟩,(zbu (zhf [(900,some 51)]) zz7),by simp;omega⟩
   case neg =>
    exact yy12
  | cons t A =>
   have hal:(A.length:Int)+1=((t::A).length:Nat):=by simp
   (conv=>whnf);refine sT ?_
   repeat refine sG ?_
   refine zbm (zw ?_);refine zon (a:=t::A) (b:=B) (c:=[]) zz74 rfl rfl ?_;(conv=>whnf);refine ⟨_,Pck.zml B s.config.packet hsz hm,rfl,zw ?_⟩
   repeat refine sG ?_
   refine zaa (c:=(0:Int)<=zce s.config.packet B/\((A.length+1:Nat):Int)+zce s.config.packet B<=((a.map Chunk.row).length:Int)) ⟨by omega,by rw [zy2,hz,zy5];omega⟩ (zw ?_);refine zel (zw ?_);refine zon (a:=t::A) (b:=B.take r) (c:=B.drop r) zz74 rfl (show (zce s.config.packet B).toNat=_ by rw [r1];simp;omega) ?_;(conv=>whnf);refine ⟨_,Pck.zfv (B.take r) s.config.packet hszr,rfl,zw ?_⟩;refine sD ?_;by_cases ho:(Pck.zde (B.take r) s.config.packet).2=0
   case pos =>
    rw [zy1 ho] at hP;refine zai ?_ ?_
    . simpa using ho
    (conv=>whnf);refine zaa (c:=((acc.map zbb.row).length+1)*40<=140737488355328) zz15 (zw ?_)
    repeat refine sG ?_
    refine zaa (c:=(0:Int)<=zce s.config.packet B/\zce s.config.packet B<=(B.length:Int)/\((A.length+1:Nat):Int)+(B.length:Int)<=((a.map Chunk.row).length:Int)) ⟨by omega,by omega,by rw [zy2,hz,zy5];omega⟩ (zw ?_);refine hQ2 _ _ (zw ?_);exact ⟨⟨((t::(A++B.take r),B.drop r),n,acc++[⟨0,false,(Pck.zde (B.take r) s.config.packet).1⟩]),by rw [i1];simp,by simp;omega,by simp;omega,by rw [<- i3,hP];simp⟩,(zbu (zhf [(900,some 51)]) zz6),by simp;omega⟩
   case neg =>
    rw [zy0 ho] at hP;refine zag ?_ ?_
    . simpa using ho
    conv=>whnf
    repeat refine sG ?_
    refine zaa (c:=(0:Int)<=zce s.config.packet B/\zce s.config.packet B<=(B.length:Int)/\((A.length+1:Nat):Int)+(B.length:Int)<=((a.map Chunk.row).length:Int)) ⟨by omega,by omega,by rw [zy2,hz,zy5];omega⟩ (zw ?_);exact yy63
 case inr.inl =>
  have hdr:zbx s.config.packet 1 ([a,b].drop 1)=zgm s.config.packet 1 b.length b++zbx s.config.packet (1+1) ([a,b].drop (1+1)):=rfl;rw [hdr] at k2;(conv=>whnf);refine ⟨1,rfl,by decide,zw ?_⟩;refine ⟨{x:(List Chunk×List Chunk)×Nat×List zbb // b=x.1.1++x.1.2/\x.1.2.length<=x.2.1/\x.2.2.length+x.1.2.length<=(1+1)*2 ^ 29/\x.2.2++(zgm s.config.packet 1 x.2.1 x.1.2++zbx s.config.packet (1+1) ([a,b].drop (1+1)))=T},
   fun | ⟨((A,B),n,acc),_⟩=>hsP [1000,1001,1002,1003,1004,1005,1006,1007,1008,1009] 57 [(0,.ptr 1000 0),(3,.own 900),(4,i64 1),(5,xil 1009 A B),(12,.own 1007),(13,i64 2),(14,i64 1)] (pR2 s a b [(900,zjq acc)]),fun x=>x.1.1.2.length,⟨(([],b),b.length,acc),rfl,by simp,by dsimp only;omega,k2⟩,?_,?_⟩
  . exact (zcx (zhf [(900,some 900)]))
  rintro ⟨⟨⟨A,B⟩,n,acc⟩,i1,i2,i4,i3⟩;dsimp only at i1 i2 i3 i4;refine zht fun Q2 hQ2=>?_
  have hz:b.length=A.length+B.length:=by rw [i1];simp
  have hko:∀ c∈b,Okc c:=hkb;by_cases hB:B=[]
  case pos =>
   subst hB;rw [zup,zy92] at i3;rw [zy14] at hz;cases A with
   | nil =>
    (conv=>whnf);have ha0:b=[]:=zy21 zz92;refine zag ?_ ?_
    . simp [ha0]
    exact yy48
   | cons t A =>
    exact yy48
  case neg =>
  obtain ⟨r,r1,r2,r3⟩:=yip (most:=s.config.packet) hB;have hBl:=zy32.2 hB;obtain ⟨n,rfl⟩:∃ n',n=n'+1:=⟨n-1,by omega⟩
  have hN:zgm s.config.packet 1 (n+1) B=zmt s.config.packet 1 B++zgm s.config.packet 1 n (B.drop r):=by rw [zgm,zy0 hB,r1,zy40]
  have hP:zmt s.config.packet 1 B=if (Pck.zde (B.take r) s.config.packet).2=0 then [⟨1,false,(Pck.zde (B.take r) s.config.packet).1⟩] else []:=by rw [zmt,r1,zy40]
  have hsz:Pck.zgb B:=⟨by omega,fun c hc=>hko c zz62⟩
  have hszr:Pck.zgb (B.take r):=hsz.take r;rw [hN,zy33] at i3;cases A with
  | nil =>
   have i1':B=b:=i1.symm;subst i1';(conv=>whnf);refine sT ?_
   repeat refine sG ?_
   (refine cL ?_;refine dL (Pck.zml B s.config.packet hsz hm) ?_)
   refine zaa (c:=(0:Int)<=0/\(0:Int)<=zce s.config.packet B/\zce s.config.packet B<=((B.map Chunk.row).length:Int)) ⟨by omega,by omega,by rw [zy2];omega⟩ (zw ?_);refine zel (zw ?_);refine zon (a:=[]) (b:=B.take r) (c:=B.drop r) zz4 rfl (show (zce s.config.packet B-0).toNat=_ by rw [r1];simp;omega) ?_;(conv=>whnf);refine ⟨_,Pck.zfv (B.take r) s.config.packet hszr,rfl,zw ?_⟩;refine sD ?_;by_cases ho:(Pck.zde (B.take r) s.config.packet).2=0
   case pos =>
    rw [zy1 ho] at hP;refine zai ?_ ?_
    . simpa using ho
    (conv=>whnf);refine zaa (c:=((acc.map zbb.row).length+1)*40<=140737488355328) zz15 (zw ?_)
    repeat refine sG ?_
    refine zaa (c:=(0:Int)<=zce s.config.packet B/\zce s.config.packet B<=((B.map Chunk.row).length:Int)/\((B.map Chunk.row).length:Int)<=((B.map Chunk.row).length:Int)) ⟨by omega,by rw [zy2];omega,by omega⟩ (zw ?_);obtain ⟨x,B1,hx⟩:∃ x B1,B.take r=x::B1:=by
     exact yy15
    have hxl:B1.length+1=r:=by have:=congrArg List.length hx;simp at this;omega
    refine hQ2 _ _ (zw ?_);exact ⟨⟨((x::B1,B.drop r),n,acc++[⟨1,false,(Pck.zde (B.take r) s.config.packet).1⟩]),by rw [<- hx,zy25],by simp;omega,by simp;omega,by rw [<- i3,hP];simp⟩,(zbu (zhf [(900,some 51)]) zz7),by simp;omega⟩
   case neg =>
    exact yy12
  | cons t A =>
   have hal:(A.length:Int)+1=((t::A).length:Nat):=by simp
   (conv=>whnf);refine sT ?_
   repeat refine sG ?_
   refine zbm (zw ?_);refine zon (a:=t::A) (b:=B) (c:=[]) zz74 rfl rfl ?_;(conv=>whnf);refine ⟨_,Pck.zml B s.config.packet hsz hm,rfl,zw ?_⟩
   repeat refine sG ?_
   refine zaa (c:=(0:Int)<=zce s.config.packet B/\((A.length+1:Nat):Int)+zce s.config.packet B<=((b.map Chunk.row).length:Int)) ⟨by omega,by rw [zy2,hz,zy5];omega⟩ (zw ?_);refine zel (zw ?_);refine zon (a:=t::A) (b:=B.take r) (c:=B.drop r) zz74 rfl (show (zce s.config.packet B).toNat=_ by rw [r1];simp;omega) ?_;(conv=>whnf);refine ⟨_,Pck.zfv (B.take r) s.config.packet hszr,rfl,zw ?_⟩;refine sD ?_;by_cases ho:(Pck.zde (B.take r) s.config.packet).2=0
   case pos =>
    rw [zy1 ho] at hP;refine zai ?_ ?_
    . simpa using ho
    (conv=>whnf);refine zaa (c:=((acc.map zbb.row).length+1)*40<=140737488355328) zz15 (zw ?_)
    repeat refine sG ?_
    refine zaa (c:=(0:Int)<=zce s.config.packet B/\zce s.config.packet B<=(B.length:Int)/\((A.length+1:Nat):Int)+(B.length:Int)<=((b.map Chunk.row).length:Int)) ⟨by omega,by omega,by rw [zy2,hz,zy5];omega⟩ (zw ?_);refine hQ2 _ _ (zw ?_);exact ⟨⟨((t::(A++B.take r),B.drop r),n,acc++[⟨1,false,(Pck.zde (B.take r) s.config.packet).1⟩]),by rw [i1];simp,by simp;omega,by simp;omega,by rw [<- i3,hP];simp⟩,(zbu (zhf [(900,some 51)]) zz6),by simp;omega⟩
   case neg =>
    rw [zy0 ho] at hP;refine zag ?_ ?_
    . simpa using ho
    conv=>whnf
    repeat refine sG ?_
    refine zaa (c:=(0:Int)<=zce s.config.packet B/\zce s.config.packet B<=(B.length:Int)/\((A.length+1:Nat):Int)+(B.length:Int)<=((b.map Chunk.row).length:Int)) ⟨by omega,by omega,by rw [zy2,hz,zy5];omega⟩ (zw ?_);exact yy63
 case inr.inr =>
  have k2:acc=T:=by rw [<- k2];simp [zbx]
  subst k2;(conv=>whnf);refine hQ _ _ ?_;conv=>whnf
  (exact zby (zhf [(0,some 900)]))
end Snd
namespace Snd
open Ser
structure PF (j:Nat) (s:zab):Prop where
 g:yjg s
 some:0<s.paths.length
 part:1<=s.config.part
 part2:s.config.part<2 ^ 30
 msg:∀ m∈s.queue,zsx s m
 chunk:∀ x∈s.out,Okc x.chunk
 bytes:Sco.total s.out+j*2 ^ 30<2 ^ 38
 few:s.out.length+s.queue.length<2 ^ 27
theorem PF.nfit {j:Nat} {s:zab} (h:PF j s):xfo s:=⟨h.g,h.some,h.part,h.part2,h.msg⟩
theorem zsx.same {s t:zab} {m:zaf} (h:zsx s m) (h1:t.config=s.config) (h2:t.mids.length=s.mids.length) (h3:t.sched.had.length=s.sched.had.length):zsx t m:=by
 obtain ⟨⟨a1,a2,a3,a4,a5⟩,b1,b2,b3,b4⟩:=h;have e:zif t m=zif s m:=by unfold zif;rw [h1]
 exact ⟨⟨a1,a2,by rw [h1];exact a3,by rw [h1];exact a4,fun hm=>by rw [e,h2];exact a5 hm⟩,by rw [h3];exact b1,b2,b3,b4⟩
theorem yke (id:Int):∀ (q:List zaf) (s:zab),(∀ x∈s.out,Okc x.chunk)->∀ x∈(q.foldl (zfc id) s).out,Okc x.chunk
 | [],s,h,x,hx=>h x hx
 | m::q,s,h,x,hx=>by
  refine yke id q (zfc id s m) (fun y hy=>?_) x hx;unfold zfc at hy;split at hy
  . rcases zy17.1 hy with hy | hy
    . exact h y hy
    . rw [zy23] at hy;subst hy;exact ⟨by simp [zry],by simp [zry]⟩
  . exact h y hy
theorem yrk {j:Nat} {s:zab} (h:PF j s) {id:Nat} (hid:id<s.fates.length):PF j (zfn s id):=by
 obtain ⟨r,h1,h2,h3⟩:=zjl s id;have hs:=r.sum;refine ⟨zzk h.g hid,by rw [r.paths];exact h.some,by rw [r.config];exact h.part,by rw [r.config];exact h.part2,fun m hm=>(h.msg m (h2 m hm)).same r.config (by rw [r.mids]) (by rw [r.had]),fun x hx=>?_,by rw [h1];exact h.bytes,by have:=h.few;omega⟩;have hx':x∈((s.queue.foldl (zfc id) {s with fates:=s.fates.set id 3}).out.map (Sco.zie id)):=hx;obtain ⟨y,hy,rfl⟩:=zy28.1 hx';have:=yke id s.queue {s with fates:=s.fates.set id 3} h.chunk y hy;have e:(Sco.zie id y).chunk=y.chunk:=by unfold Sco.zie;split<;>rfl
 rw [e];exact this
theorem xcm {j:Nat} {s:zab} (h:PF j s) {m:zaf} (hm:0<=m.id/\m.id<s.fates.length):PF j (zkx s m):=by
 unfold zkx;split
 . obtain ⟨k,hk⟩:∃ k:Nat,m.id=k:=⟨m.id.toNat,by omega⟩
   rw [hk];exact yrk h zz0
 . exact h
theorem xcp {j:Nat} {s:zab} (h:PF j s) {m:zbr} (hm:0<=m.id/\m.id<s.fates.length):PF j (zid s m):=by
 unfold zid;split
 . obtain ⟨k,hk⟩:∃ k:Nat,m.id=k:=⟨m.id.toNat,by omega⟩
   rw [hk];exact yrk h zz0
 . exact h
theorem yki {j:Nat}:∀ (q:List zaf) (s:zab),PF j s->(∀ m∈q,0<=m.id/\m.id<s.fates.length)->PF j (q.foldl zkx s)/\Rest s (q.foldl zkx s)
 | [],s,h,_=>⟨h,Rest.refl s⟩
 | m::q,s,h,hq=>by
  obtain ⟨-,r⟩:=zzc h.g (hq m zz4);obtain ⟨h1,r1⟩:=yki q (zkx s m) (xcm h (hq m zz4)) fun x hx=>by rw [r.fates];exact hq x zz38
  exact ⟨h1,r.trans r1⟩
theorem ykk {j:Nat}:∀ (q:List zbr) (s:zab),PF j s->(∀ m∈q,0<=m.id/\m.id<s.fates.length)->PF j (q.foldl zid s)/\Rest s (q.foldl zid s)
 | [],s,h,_=>⟨h,Rest.refl s⟩
 | m::q,s,h,hq=>by
  obtain ⟨-,r⟩:=zze h.g (hq m zz4);obtain ⟨h1,r1⟩:=ykk q (zid s m) (xcp h (hq m zz4)) fun x hx=>by rw [r.fates];exact hq x zz38
  exact ⟨h1,r.trans r1⟩
theorem yqy {j:Nat} {s:zab} (h:PF j s):PF j (expire s)/\Rest s (expire s):=by
 obtain ⟨h1,r1⟩:=yki s.queue s h h.g.qid;obtain ⟨h2,r2⟩:=ykk (s.queue.foldl zkx s).out _ h1 h1.g.xid;exact ⟨h2,r1.trans r2⟩
theorem zut:∀ (l:List zbr) (cum:Int) (sk:List zga),sk.length<=8->(Sco.zfo cum sk l).2.length<=8
 | [],cum,sk,h=>h
 | x::l,cum,sk,h=>by
  simp only [Sco.zfo];split
  . exact h
  split
  . split
    . exact h
    . exact zut l _ _ zz0
  . exact zut l _ _ h
theorem xcx (s:zab):Okc (zub s):=⟨by simp [zub],by have:=zut s.out s.cum [] zz4;show (Sco.zdy s.out s.cum).2.length<_;unfold Sco.zdy;omega⟩
theorem PF.paths {j:Nat} {s:zab} (h:PF j s) (ps:List Path) (f:Bool) (hp:ps.length=s.paths.length):PF j {s with paths:=ps,forward:=f}:=by
 obtain ⟨⟨⟨f1,f2,f3,f4,f5,f6,f7⟩,g2,g3,g4⟩,a1,a2,a3,a4,a5,a6,a7⟩:=h;exact ⟨⟨⟨f1,f2,f3,by show ps.length<_;omega,f5,f6,f7⟩,g2,g3,g4⟩,by show 0<ps.length;omega,a2,a3,fun m hm=>(a4 m hm).same rfl rfl rfl,a5,a6,a7⟩
theorem xgb {j:Nat} {s:zab} (h:PF j s) {k:Nat} {w:Path}:PF j (yqa s k w):=h.paths _ _ zz4
theorem xfz {j:Nat} {s:zab} (h:PF j s) {i c:Nat} {x:zbr} {w:Path} (hx:s.out[i]?=some x):PF j (ycp s i c x w):=by
 obtain ⟨⟨⟨f1,f2,⟨b1,b2⟩,f4,f5,f6,f7⟩,g2,g3,g4⟩,a1,a2,a3,a4,a5,a6,a7⟩:=h;have hi:=(zy9.1 hx).1;have hl:(ycp s i c x w).out.length=s.out.length:=by show (s.out.set i _).length=_;simp
 have hp:(ycp s i c x w).paths.length=s.paths.length:=by show (s.paths.set c _).length=_;simp
 have ht:Sco.total (ycp s i c x w).out=Sco.total s.out:=by
  show Sco.total (s.out.set i (zvx x c))=_;have he:s.out[i]=x:=(zy9.1 hx).2;simp only [Sco.total,zy107];rw [show (zvx x c).chunk.data.length=(s.out.map fun s=>s.chunk.data.length)[i]'(by simpa using hi) by simp [zvx,he],List.set_getElem_self]
 have hmem:∀ y∈(ycp s i c x w).out,∃ z∈s.out,y.id=z.id/\y.chunk=z.chunk:=fun y hy=>by
  rcases zy56 (show y∈s.out.set i (zvx x c) from hy) with hy | hy
  . exact ⟨y,hy,rfl,rfl⟩
  . exact ⟨x,zy12 hx,by rw [hy];rfl,by rw [hy];rfl⟩
 refine ⟨⟨⟨f1,f2,⟨by rw [hl];exact b1,by rw [ht];exact b2⟩,by rw [hp];exact f4,f5,f6,f7⟩,by rw [hl];exact g2,g3,fun y hy=>?_⟩,by rw [hp];exact a1,a2,a3,fun m hm=>(a4 m hm).same rfl rfl rfl,fun y hy=>?_,by rw [ht];exact a6,by rw [hl];exact a7⟩
 . obtain ⟨z,hz,e,-⟩:=hmem y hy;rw [e];exact g4 z hz
 . obtain ⟨z,hz,-,e⟩:=hmem y hy;rw [e];exact a5 z hz
def nxS (s:zab) (k c:Nat) (m:zaf) (w:Path):zab:={ycp (s2 s k m) s.out.length c (x0 s m) w with queue:=if ovr s m then s.queue.eraseIdx k else s.queue.set k (m2 s m)}
theorem xdt {j:Nat} {s:zab} (h:PF (j+1) s) {k c:Nat} {m:zaf} {w:Path} (hm:s.queue[k]?=some m) (ho:s.out.length<60):PF j (nxS s k c m w):=by
 have hmf:=h.msg m (zy12 hm);obtain ⟨⟨⟨f1,f2,⟨b1,b2⟩,f4,f5,f6,f7⟩,g2,g3,g4⟩,a1,a2,a3,a4,a5,a6,a7⟩:=h;obtain ⟨n1,n2,n3⟩:=zuj (s:=s) (m:=m) a2 a3 hmf.sent hmf.left hmf.data;have hk:=(zy9.1 hm).1;have hmid:(zdp s m).length=s.mids.length:=by
  unfold zdp setAt;split
  . split
    . rfl
    . simp
  . rfl
 have hhad:(Sch.had s.sched {m with mid:=zcd s m} (many s m) (ovr s m)).had.length=s.sched.had.length:=by
  unfold Sch.had;dsimp only;split<;>simp
 have hout:(nxS s k c m w).out=(s.out++[x0 s m]).set s.out.length (zvx (x0 s m) c):=rfl;have hout2:(nxS s k c m w).out=s.out++[zvx (x0 s m) c]:=by rw [hout,zy162 _ _ (zy22 _),zy98];rfl
 have hq:∀ y∈(nxS s k c m w).queue,y∈s.queue\/(y=m2 s m/\ovr s m=false):=fun y hy=>by
  have hy:y∈(if ovr s m then s.queue.eraseIdx k else s.queue.set k (m2 s m)):=hy;cases ho:ovr s m with
  | true=>rw [ho,zy1 rfl] at hy;exact .inl (zy73 hy)
  | false =>
   rw [ho,zy0 (by decide)] at hy;rcases zy56 hy with hy | hy
   . exact .inl hy
   . exact .inr ⟨hy,rfl⟩
 have hql:(nxS s k c m w).queue.length<=s.queue.length:=by
  show (if ovr s m then s.queue.eraseIdx k else s.queue.set k (m2 s m)).length<=_;split
  . rw [zy106];split<;>omega
  . simp
 have hp:(nxS s k c m w).paths.length=s.paths.length:=by show (s.paths.set c _).length=_;simp
 have hd:(x0 s m).chunk.data.length<2 ^ 30:=by show ((m.message.data.drop _).take _).length<_;simp;omega
 have htot:Sco.total (nxS s k c m w).out=Sco.total s.out+(x0 s m).chunk.data.length:=by rw [hout2,Sco.zjz];simp [Sco.total,zvx]
 have hlen:(nxS s k c m w).out.length=s.out.length+1:=by rw [hout2];simp
 have hm2:ovr s m=false->zsx s (m2 s m):=fun ho=>by
  have:m.sent+many s m≠m.message.data.length:=by
   intro e;have:=xba s m;rw [ho,zy42] at this;exact this e
  obtain ⟨⟨c1,c2,c3,c4,c5⟩,d1,d2,d3,d4⟩:=hmf;refine ⟨⟨c1,c2,c3,c4,fun hneg=>?_⟩,d1,by show 0<=m.sent+many s m;omega,by show m.sent+many s m<m.message.data.length;omega,d4⟩;have hmn:m.mid<0:=by
   rcases Int.lt_or_le m.mid 0 with h0 | h0
   . exact h0
   . have:zcd s m=m.mid:=by rw [zcd,zy0 (by omega)]
     have hneg:zcd s m<0:=hneg;omega
  exact c5 hmn
 refine ⟨⟨⟨by omega,by rw [show (nxS s k c m w).sched.had.length=s.sched.had.length from hhad];exact f2,⟨by omega,by omega⟩,by omega,by rw [show (nxS s k c m w).mids.length=s.mids.length from hmid];exact f5,f6,fun y hy=>?_⟩,by omega,fun y hy=>?_,fun y hy=>?_⟩,by omega,a2,a3,fun y hy=>?_,fun y hy=>?_,by omega,by omega⟩
 . rcases hq y hy with hy | ⟨rfl,-⟩
   . exact f7 y hy
   . exact f7 m (zy12 hm)
 . show 0<=y.id/\y.id<s.fates.length
   rcases hq y hy with hy | ⟨rfl,-⟩
   . exact g3 y hy
   . exact g3 m (zy12 hm)
 . show 0<=y.id/\y.id<s.fates.length
   rw [hout2] at hy;rcases zy17.1 hy with hy | hy
   . exact g4 y hy
   . rw [zy23] at hy;subst hy;exact g3 m (zy12 hm)
 . have h0:zsx s y:=by
    rcases hq y hy with hy | ⟨rfl,ho⟩
    . exact a4 y hy
    . exact hm2 ho
   exact h0.same rfl hmid hhad
 . rw [hout2] at hy
   rcases zy17.1 hy with hy | hy
   . exact a5 y hy
   . rw [zy23] at hy;subst hy;exact ⟨by simp [zvx,x0],by simp [zvx,x0]⟩
theorem yye {s:zab} {o:List (List Chunk)} {j:Nat} (h:PF (j+1) s) (hc:choose s<o.length):(nx s o=(⟨s,o⟩,false)/\next ⟨s,o⟩=none)\/∃ (k:Nat) (m:zaf) (w:Path) (l:List Chunk),s.queue[k]?=some m/\s.out.length<60/\o[choose s]?=some l /\
 nx s o=(⟨nxS s k (choose s) m w,o.set (choose s) (l++[(x0 s m).chunk])⟩,true)/\next ⟨s,o⟩=some ⟨nxS s k (choose s) m w,o.set (choose s) (l++[(x0 s m).chunk])⟩:=by
 obtain ⟨-,hc2⟩:=zee h.some;obtain ⟨w,hw⟩:∃ w,s.paths[choose s]?=some w:=⟨_,zy3 hc2⟩
 obtain ⟨l,hl⟩:∃ l,o[choose s]?=some l:=⟨_,zy3 hc⟩
 cases hn:next ⟨s,o⟩ with
 | none=>exact .inl ⟨by rw [nx,hn],rfl⟩
 | some q =>
  right
  have hn':=hn;unfold next at hn';split at hn'
  . cases hn'
  rename_i c0;have c0:=not_or.1 c0;have c1:=not_or.1 c0.2;cases hq:s.queue[(zdi s).toNat]? with
  | none=>simp only [hq] at hn';cases hn'
  | some m =>
   simp only [hq] at hn';split at hn'
   . cases hn'
   . have hn':=Option.some.inj hn'
     rw [zff rfl hw hl] at hn';refine ⟨(zdi s).toNat,m,w,l,hq,by have h2:=c1.2;dsimp only at h2;omega,hl,?_,?_⟩
     . rw [nx,hn];simp only;rw [<- hn'];rfl
     . rw [<- hn'];rfl
end Snd
namespace Snd
open Ser
structure PO (g:Config) (j n k:Nat) (p:zgj):Prop where
 pf:PF j p.s
 paths:p.s.paths.length=n
 outs:p.out.length=n
 config:p.s.config=g
 most:∀ l∈p.out,l.length<=k/\∀ c∈l,Okc c
theorem PO.mono {g:Config} {j n k k':Nat} {p:zgj} (h:PO g j n k p) (hk:k<=k'):PO g j n k' p:=⟨h.pf,h.paths,h.outs,h.config,fun l hl=>⟨zy109 (h.most l hl).1 hk,(h.most l hl).2⟩⟩
theorem zuu {o:List (List Chunk)} {k c:Nat} {l:List Chunk} {x:Chunk} (h:∀ l∈o,l.length<=k/\∀ c∈l,Okc c) (hl:o[c]?=some l) (hx:Okc x):∀ m∈o.set c (l++[x]),m.length<=k+1/\∀ c∈m,Okc c:=fun m hm=>by
 rcases zy56 hm with hm | rfl
 . obtain ⟨h1,h2⟩:=h m hm;exact ⟨by omega,h2⟩
 . obtain ⟨h1,h2⟩:=h l (zy12 hl)
   refine ⟨by simp;omega,fun c hc=>?_⟩;rcases zy17.1 hc with hc | hc
   . exact h2 c hc
   . rw [zy23] at hc;subst hc;exact hx
theorem yqi {g:Config} {j n k c:Nat} {p:zgj} (h:PO g j n k p) (hc:c<n) (i:Nat):PO g j n (k+1) (zdn c p i):=by
 obtain ⟨s,o⟩:=p;obtain ⟨w,hw⟩:∃ w,s.paths[c]?=some w:=⟨_,zy3 (by have:=h.paths;dsimp only at this;omega)⟩
 obtain ⟨l,hl⟩:∃ l,o[c]?=some l:=⟨_,zy3 (by have:=h.outs;dsimp only at this;omega)⟩
 cases hx:s.out[i]? with
 | none=>simp only [zdn,hx];exact h.mono zz0
 | some x =>
  by_cases d:x.state=3/\w.zak<w.window
  . rw [zoc hx hw hl d]
    exact ⟨xfz h.pf hx,by show (s.paths.set c _).length=_;rw [zy30];exact h.paths,by show (o.set c _).length=_;rw [zy30];exact h.outs,h.config,zuu h.most hl (h.pf.chunk x (zy12 hx))⟩
  . rw [zsg hx hw d];exact h.mono zz0
theorem ybu {g:Config} {j n c:Nat} (hc:c<n):∀ (L:List Nat) {k:Nat} {p:zgj},PO g j n k p->PO g j n (k+L.length) (L.foldl (zdn c) p)
 | [],_,_,h=>h
 | i::L,k,p,h=>(ybu hc L (yqi h hc i)).mono zz3
theorem zyn {g:Config} {j n k:Nat} {p:zgj} (h:PO g j n k p):PO g j n (k+p.s.out.length) (again p):=by
 obtain ⟨-,hc2⟩:=zee h.pf.some;have:=ybu (show choose p.s<n by rw [<- h.paths];exact hc2) (List.range p.s.out.length) h;rw [zy154] at this;exact this
theorem zmf {g:Config} {j n k:Nat} {p:zgj} (h:PO g j n k p):PO g j n (k+1) (forward p):=by
 obtain ⟨s,o⟩:=p;obtain ⟨-,hc2⟩:=zee h.pf.some;dsimp only at hc2;obtain ⟨l,hl⟩:∃ l,o[choose s]?=some l:=⟨_,zy3 (by have:=h.outs;have:=h.paths;dsimp only at *;omega)⟩
 obtain ⟨w,hw⟩:∃ w,s.paths[choose s]?=some w:=⟨_,zy3 hc2⟩
 unfold forward;split
 . exact h.mono zz0
 . simp only [setAt,hl,hw]
   exact ⟨xgb h.pf (k:=choose s) (w:=w),by show (s.paths.set _ _).length=_;rw [zy30];exact h.paths,by show (o.set _ _).length=_;rw [zy30];exact h.outs,h.config,zuu h.most hl (xcx s)⟩
theorem zog {j:Nat} {s:zab} (h:PF j s):PO s.config j s.paths.length 0 ⟨expire s,List.replicate s.paths.length []⟩:=by
 obtain ⟨h1,r⟩:=yqy h;exact ⟨h1,by rw [show (zgj.mk (expire s) _).s=expire s from rfl,r.paths],by simp,r.config,fun l hl=>by rw [zy64 hl];simp⟩
theorem yii {g:Config} {j n k:Nat} {p:zgj} (h:PO g (j+1) n k p):(nx p.s p.out=(p,false)/\next p=none)\/∃ q,nx p.s p.out=(q,true)/\next p=some q/\p.s.out.length<60/\q.s.out.length=p.s.out.length+1/\PO g j n (k+1) q:=by
 obtain ⟨s,o⟩:=p;obtain ⟨-,hc2⟩:=zee h.pf.some;have hp:=h.paths;have ho:=h.outs;dsimp only at hp ho hc2;rcases yye h.pf (show choose s<o.length by omega) with h1 | ⟨i,m,w,l,h1,h2,h3,h4,h5⟩
 . exact .inl h1
 . refine .inr ⟨_,h4,h5,h2,by simp [nxS,ycp,s2],xdt h.pf h1 h2,by show (s.paths.set _ _).length=_;rw [zy30];exact hp,by show (o.set _ _).length=_;rw [zy30];exact ho,h.config,zuu h.most h3 ⟨by simp [x0],by simp [x0]⟩⟩
theorem zxl {p:zgj} (h:next p=none) (j:Nat):zgl j p=p:=by cases j<;>simp [zgl,h]
end Snd
namespace Snd
open Ser
theorem yti {α:Type} {l:List α} (h:l.length=1):∃ a,l=[a]:=by
 match l,h with
 | [a],_=>exact ⟨a,rfl⟩
theorem yvt {α:Type} {l:List α} (h:l.length=2):∃ a b,l=[a,b]:=by
 match l,h with
 | [a,b],_=>exact ⟨a,b,rfl⟩
abbrev xiq (t:zab) (a:List Chunk) (L:List (Nat×zad)):List (Nat×zad):=(2,.live (.cells 32 ypz))::(16,.live (.cells 139 (ywb t (.own 900) (.own 901) (.own 902) (.own 903) (.own 904) (.own 905) (.own 14))))::zya t 900 901 902 903 904 905 ((14,.live (.cells 145 [.own 906]))::(906,xfk a)::L)
abbrev xir (t:zab) (a b:List Chunk) (L:List (Nat×zad)):List (Nat×zad):=(2,.live (.cells 32 ypz))::(16,.live (.cells 139 (ywb t (.own 900) (.own 901) (.own 902) (.own 903) (.own 904) (.own 905) (.own 14))))::zya t 900 901 902 903 904 905 ((14,.live (.cells 145 [.own 906,.own 907]))::(906,xfk a)::(907,xfk b)::L)
theorem zgf {α β:Type} (f:α->β) (A:List α) (p:α) (B:List β):(A++[p]).map f++B=A.map f++f p::B:=by simp
theorem yiy (s:zab) (h:PF 62 s) (hm:inI s.config.packet) (h1p:s.paths.length=1) :
 zao Tryz.prog 39 [s.hv] zae (.tup [xep (zfl s).1 0 1 2 3 4 5,.own 6]) (lk .free (zya (zfl s).1 0 1 2 3 4 5 [(6,zjq (zfl s).2)])):=by
 have h0:=h.g.fit;have e1:PO s.config 62 1 0 ⟨expire s,[[]]⟩:=by have:=zog h;rw [h1p] at this;exact this
 have e2:=zmf e1;have e3:=zyn e2;have hF:zgl 61 (again (forward ⟨expire s,[[]]⟩))=zhy s:=by rw [zhy,h1p];rfl
 have hfew:=e2.pf.few;rw [show zfl s=(ygk (zhy s).s,zbx s.config.packet 0 (zhy s).out) from rfl];generalize zhy s=F at hF ⊢;dsimp only;refine zan mixed Tryz.func39 zz5 [] (fun _=>.inl rfl) ?_;(conv=>whnf)
 (refine zas [(0,20),(1,21),(2,22),(3,23),(4,24),(5,25)]  ?_;(conv=>whnf);refine dO (zdb s h0) ?_)
 refine zaa ⟨by omega,rfl,by rw [zy2,h1p];decide⟩ (zw ?_);refine ⟨1,by rw [zy2,h1p],by decide,zw ?_⟩;refine sD ?_
 (refine zac [] [(1000,16),(1001,20),(1002,21),(1003,22),(1004,23),(1005,24),(1006,25),(1007,14)] [(0,930),(1,931),(2,932),(3,933),(4,934),(5,935)] ?_;(conv=>whnf);refine dG (yfo s h.g) ?_)
 (refine zac [] [(1000,16),(1001,930),(1002,931),(1003,932),(1004,933),(1005,934),(1006,935),(1007,14)] [(0,940)] ?_;(conv=>whnf);refine dG (yba (expire s) zz81 e1.paths) ?_)
 generalize forward ⟨expire s,[[]]⟩=P1 at e2 e3 hF hfew ⊢;obtain ⟨t1,o1⟩:=P1;obtain ⟨a1,rfl⟩:=yti e2.outs
 (refine zac [] [(1000,16),(1001,930),(1002,931),(1003,932),(1004,933),(1005,934),(1006,935),(1007,14),(1008,940)] [(0,950)] ?_;(conv=>whnf);refine dG (yit t1 a1 (by dsimp only at hfew;omega) e2.paths (by have:=(e2.most a1 (by simp)).1;omega)) ?_)
 generalize again ⟨t1,[a1]⟩=P2 at e3 hF ⊢;obtain ⟨t2,o2⟩:=P2;obtain ⟨a2,rfl⟩:=yti e3.outs;dsimp only at hfew;refine ⟨{x:Nat×zab×List Chunk // zgl x.1 ⟨x.2.1,[x.2.2]⟩=F/\PO s.config (x.1+1) 1 (2 ^ 27+99-x.1) ⟨x.2.1,[x.2.2]⟩/\61<=x.1+x.2.1.out.length/\x.1<=61},
  fun | ⟨(j,t,a),_⟩=>hs 106 [(2,.ptr 2 0),(3,zgk),(4,.ptr 16 0)] (xiq t a []),fun x=>x.1.1,⟨(61,t2,a2),hF,e3.mono zz59,by dsimp only;omega,by dsimp only;omega⟩,?_,?_⟩
 . exact (zdx [(2,some 2),(16,some 16),(14,some 14),(900,some 930),(901,some 931),(902,some 932),(903,some 933),(904,some 934),(905,some 935),(906,some 950)])
 rintro ⟨⟨j,t,a⟩,k1,k2,k3,k4⟩;dsimp only at k1 k2 k3 k4;have km:=k2.most a zz4;(conv=>whnf);have hn:=zqt t a k2.pf.nfit k2.paths zz0;rcases yii k2 with ⟨n1,n2⟩ | ⟨q,n1,n2,n3,n4,n5⟩
 case inr =>
  obtain ⟨u,o⟩:=q;have n6:=n5.outs;obtain ⟨b,rfl⟩:=yti n6;dsimp only at n1 n3 n4;rw [n1] at hn
  (refine zac [] [(1000,16),(1001,900),(1002,901),(1003,902),(1004,903),(1005,904),(1006,905),(1007,14),(1008,906)] [(0,930),(1,931),(2,932),(3,933),(4,934),(5,935),(6,950)] ?_;(conv=>whnf);refine dG hn ?_)
  obtain ⟨j,rfl⟩:∃ j',j=j'+1:=⟨j-1,by omega⟩
  rw [zgl,n2] at k1;exact ⟨⟨(j,u,b),k1,n5.mono zz0,by dsimp only;omega,by dsimp only;omega⟩,(zdx [(2,some 2),(16,some 16),(14,some 14),(900,some 930),(901,some 931),(902,some 932),(903,some 933),(904,some 934),(905,some 935),(906,some 950)]),by dsimp only;omega⟩
 case inl =>
  dsimp only at n1;rw [n1] at hn;rw [zxl n2] at k1;subst k1
  (refine zac [] [(1000,16),(1001,900),(1002,901),(1003,902),(1004,903),(1005,904),(1006,905),(1007,14),(1008,906)] [(0,930),(1,931),(2,932),(3,933),(4,934),(5,935),(6,950)] ?_;(conv=>whnf);refine dG hn ?_)
  (refine zac [] [(1000,932)] [(0,960)] ?_;(conv=>whnf);refine dG (Sco.zeu t.out t.cum zz82) ?_)
  refine sD ?_;generalize hN:(Sco.zdy t.out t.cum).1=N;have kfew:=k2.pf.few;have kpl:=k2.paths;dsimp only at kfew kpl;refine ⟨{x:List Path×List Path // t.paths=x.1++x.2},fun | ⟨(A,B),_⟩=>hs 106 [(2,.ptr 2 0),(3,zgk),(4,.ptr 16 0),(5,i64 N),(44,i64 t.paths.length),(45,i64 A.length)] (xiq {t with paths:=A.map (zfz t N)++B} a []),fun x=>x.1.2.length,⟨([],t.paths),rfl⟩,?_,?_⟩
  . exact (zdx [(2,some 2),(16,some 16),(14,some 14),(900,some 930),(901,some 931),(902,some 932),(903,some 933),(904,some 934),(905,some 935),(906,some 950)])
  rintro ⟨⟨A,B⟩,h⟩;dsimp only at h;(conv=>whnf);cases B with
  | cons p B =>
   have hz:=zcf h;refine sT ?_;refine sOm ?_;refine zal (a:=A.map (zfz t N)) (b:=B) (s:=p) rfl zz4 (zw ?_);by_cases d1:p.zak>0
   case pos =>
    rw [show decide (p.zak>0)=true from zy16 d1];refine zai rfl (zw ?_)
    repeat refine sG ?_
    refine zal (a:=A.map (zfz t N)) (b:=B) (s:=p) rfl zz4 (zw ?_);by_cases d2:p.zcj=0
    case pos =>
     rw [show (p.zcj==0)=true from zy41.2 d2];(conv=>whnf);refine zal (a:=A.map (zfz t N)) (b:=B) (s:=p) rfl zz4 (zw ?_);refine sR ?_;refine zal (a:=A.map (zfz t N)) (b:=B) (s:=p) rfl zz4 (zw ?_);refine sD ?_;refine sF ?_;exact ⟨⟨(A++[p],B),zar h⟩,(zcr ((2,some 2)::((16,some 16)::((14,some 14)::(pJ7 [])))) zz16),by simp⟩
    case neg =>
     rw [show (p.zcj==0)=false from zy20.2 d2];(conv=>whnf);refine zal (a:=A.map (zfz t N)) (b:=B) (s:=p) rfl zz4 (zw ?_);by_cases d3:p.zak=0
     case pos =>
      rw [show (p.zak==0)=true from zy41.2 d3];refine zai rfl (zw ?_)
      repeat refine sG ?_
      by_cases d4:N=t.cum
      case pos =>
       rw [show (N==t.cum)=true from zy41.2 d4];(conv=>whnf);have d6:zfz t N p={p with zcj:=0}:=by rw [zfz,zy0 (fun h=>d2 h.2),zy1 ⟨d3,d4⟩]
       exact yy65
      case neg =>
       rw [show (N==t.cum)=false from zy20.2 d4];(conv=>whnf);have d6:zfz t N p=p:=by rw [zfz,zy0 (fun h=>d2 h.2),zy0 (fun h=>d4 h.2)]
       exact yy25
     case neg =>
      rw [show (p.zak==0)=false from zy20.2 d3];(conv=>whnf);have d6:zfz t N p=p:=by rw [zfz,zy0 (fun h=>d2 h.2),zy0 (fun h=>d3 h.1)]
      exact yy25
   case neg =>
    rw [show decide (p.zak>0)=false from zy19 d1];(conv=>whnf);refine zal (a:=A.map (zfz t N)) (b:=B) (s:=p) rfl zz4 (zw ?_);by_cases d3:p.zak=0
    case pos =>
     rw [show (p.zak==0)=true from zy41.2 d3];refine zai rfl (zw ?_)
     repeat refine sG ?_
     by_cases d4:N=t.cum
     case pos =>
      rw [show (N==t.cum)=true from zy41.2 d4];(conv=>whnf);have d6:zfz t N p={p with zcj:=0}:=by rw [zfz,zy0 (fun h=>d1 h.1),zy1 ⟨d3,d4⟩]
      exact yy65
     case neg =>
      rw [show (N==t.cum)=false from zy20.2 d4];(conv=>whnf);have d6:zfz t N p=p:=by rw [zfz,zy0 (fun h=>d1 h.1),zy0 (fun h=>d4 h.2)]
      exact yy25
    case neg =>
     rw [show (p.zak==0)=false from zy20.2 d3];(conv=>whnf);have d6:zfz t N p=p:=by rw [zfz,zy0 (fun h=>d1 h.1),zy0 (fun h=>d3 h.1)]
     exact yy25
  | nil =>
   have hz:=zcw h;rw [zy8] at h;refine sN ?_
   (refine zac [] [(1000,16),(1001,900),(1002,901),(1003,902),(1004,903),(1005,904),(1006,905),(1007,14),(1008,906)] [(0,970)] ?_;(conv=>whnf);refine dG (ybd {t with paths:=A.map (zfz t N)++[]} a zz56 zz0 km.2) ?_)
   exact yy13
theorem yiz (s:zab) (h:PF 62 s) (hm:inI s.config.packet) (h1p:s.paths.length=2) :
 zao Tryz.prog 39 [s.hv] zae (.tup [xep (zfl s).1 0 1 2 3 4 5,.own 6]) (lk .free (zya (zfl s).1 0 1 2 3 4 5 [(6,zjq (zfl s).2)])):=by
 have h0:=h.g.fit;have e1:PO s.config 62 2 0 ⟨expire s,[[],[]]⟩:=by have:=zog h;rw [h1p] at this;exact this
 have e2:=zmf e1;have e3:=zyn e2;have hF:zgl 61 (again (forward ⟨expire s,[[],[]]⟩))=zhy s:=by rw [zhy,h1p];rfl
 have hfew:=e2.pf.few;rw [show zfl s=(ygk (zhy s).s,zbx s.config.packet 0 (zhy s).out) from rfl];generalize zhy s=F at hF ⊢;dsimp only;refine zan mixed Tryz.func39 zz5 [] (fun _=>.inl rfl) ?_;(conv=>whnf)
 (refine zas [(0,20),(1,21),(2,22),(3,23),(4,24),(5,25)]  ?_;(conv=>whnf);refine dO (zdb s h0) ?_)
 refine zaa ⟨by omega,rfl,by rw [zy2,h1p];decide⟩ (zw ?_);refine ⟨2,by rw [zy2,h1p],by decide,zw ?_⟩;refine sD ?_
 (refine zac [] [(1000,16),(1001,20),(1002,21),(1003,22),(1004,23),(1005,24),(1006,25),(1007,14)] [(0,930),(1,931),(2,932),(3,933),(4,934),(5,935)] ?_;(conv=>whnf);refine dG (yfp s h.g) ?_)
 (refine zac [] [(1000,16),(1001,930),(1002,931),(1003,932),(1004,933),(1005,934),(1006,935),(1007,14)] [(0,940),(1,941)] ?_;(conv=>whnf);refine dG (ybb (expire s) zz81 e1.paths) ?_)
 generalize forward ⟨expire s,[[],[]]⟩=P1 at e2 e3 hF hfew ⊢;obtain ⟨t1,o1⟩:=P1;obtain ⟨a1,b1,rfl⟩:=yvt e2.outs
 (refine zac [] [(1000,16),(1001,930),(1002,931),(1003,932),(1004,933),(1005,934),(1006,935),(1007,14),(1008,940),(1009,941)] [(0,950),(1,951)] ?_;(conv=>whnf);refine dG (yiu t1 a1 b1 (by dsimp only at hfew;omega) e2.paths (by have:=(e2.most a1 (by simp)).1;have:=(e2.most b1 (by simp)).1;omega)) ?_)
 generalize again ⟨t1,[a1,b1]⟩=P2 at e3 hF ⊢;obtain ⟨t2,o2⟩:=P2;obtain ⟨a2,b2,rfl⟩:=yvt e3.outs;dsimp only at hfew;refine ⟨{x:Nat×zab×List Chunk×List Chunk // zgl x.1 ⟨x.2.1,[x.2.2.1,x.2.2.2]⟩=F/\PO s.config (x.1+1) 2 (2 ^ 27+99-x.1) ⟨x.2.1,[x.2.2.1,x.2.2.2]⟩/\61<=x.1+x.2.1.out.length/\x.1<=61},
  fun | ⟨(j,t,a,b),_⟩=>hs 106 [(2,.ptr 2 0),(3,zgk),(4,.ptr 16 0)] (xir t a b []),fun x=>x.1.1,⟨(61,t2,a2,b2),hF,e3.mono zz59,by dsimp only;omega,by dsimp only;omega⟩,?_,?_⟩
 . exact (zdx [(2,some 2),(16,some 16),(14,some 14),(900,some 930),(901,some 931),(902,some 932),(903,some 933),(904,some 934),(905,some 935),(906,some 950),(907,some 951)])
 rintro ⟨⟨j,t,a,b⟩,k1,k2,k3,k4⟩;dsimp only at k1 k2 k3 k4;have km:=k2.most a zz4;have kn:=k2.most b zz4;(conv=>whnf);have hn:=yph t a b k2.pf.nfit k2.paths zz0;rcases yii k2 with ⟨n1,n2⟩ | ⟨q,n1,n2,n3,n4,n5⟩
 case inr =>
  obtain ⟨u,o⟩:=q;have n6:=n5.outs;obtain ⟨a',b',rfl⟩:=yvt n6;dsimp only at n1 n3 n4;rw [n1] at hn
  (refine zac [] [(1000,16),(1001,900),(1002,901),(1003,902),(1004,903),(1005,904),(1006,905),(1007,14),(1008,906),(1009,907)] [(0,930),(1,931),(2,932),(3,933),(4,934),(5,935),(6,950),(7,951)] ?_;(conv=>whnf);refine dG hn ?_)
  obtain ⟨j,rfl⟩:∃ j',j=j'+1:=⟨j-1,by omega⟩
  rw [zgl,n2] at k1;exact ⟨⟨(j,u,a',b'),k1,n5.mono zz0,by dsimp only;omega,by dsimp only;omega⟩,(zdx [(2,some 2),(16,some 16),(14,some 14),(900,some 930),(901,some 931),(902,some 932),(903,some 933),(904,some 934),(905,some 935),(906,some 950),(907,some 951)]),by dsimp only;omega⟩
 case inl =>
  dsimp only at n1;rw [n1] at hn;rw [zxl n2] at k1;subst k1
  (refine zac [] [(1000,16),(1001,900),(1002,901),(1003,902),(1004,903),(1005,904),(1006,905),(1007,14),(1008,906),(1009,907)] [(0,930),(1,931),(2,932),(3,933),(4,934),(5,935),(6,950),(7,951)] ?_;(conv=>whnf);refine dG hn ?_)
  (refine zac [] [(1000,932)] [(0,960)] ?_;(conv=>whnf);refine dG (Sco.zeu t.out t.cum zz82) ?_)
  refine sD ?_;generalize hN:(Sco.zdy t.out t.cum).1=N;have kfew:=k2.pf.few;have kpl:=k2.paths;dsimp only at kfew kpl;refine ⟨{x:List Path×List Path // t.paths=x.1++x.2},fun | ⟨(A,B),_⟩=>hs 106 [(2,.ptr 2 0),(3,zgk),(4,.ptr 16 0),(5,i64 N),(44,i64 t.paths.length),(45,i64 A.length)] (xir {t with paths:=A.map (zfz t N)++B} a b []),fun x=>x.1.2.length,⟨([],t.paths),rfl⟩,?_,?_⟩
  . exact (zdx [(2,some 2),(16,some 16),(14,some 14),(900,some 930),(901,some 931),(902,some 932),(903,some 933),(904,some 934),(905,some 935),(906,some 950),(907,some 951)])
  rintro ⟨⟨A,B⟩,h⟩;dsimp only at h;(conv=>whnf);cases B with
  | cons p B =>
   have hz:=zcf h;refine sT ?_;refine sOm ?_;refine zal (a:=A.map (zfz t N)) (b:=B) (s:=p) rfl zz4 (zw ?_);by_cases d1:p.zak>0
   case pos =>
    rw [show decide (p.zak>0)=true from zy16 d1];refine zai rfl (zw ?_)
    repeat refine sG ?_
    refine zal (a:=A.map (zfz t N)) (b:=B) (s:=p) rfl zz4 (zw ?_);by_cases d2:p.zcj=0
    case pos =>
     rw [show (p.zcj==0)=true from zy41.2 d2];(conv=>whnf);refine zal (a:=A.map (zfz t N)) (b:=B) (s:=p) rfl zz4 (zw ?_);refine sR ?_;refine zal (a:=A.map (zfz t N)) (b:=B) (s:=p) rfl zz4 (zw ?_);refine sD ?_;refine sF ?_;exact ⟨⟨(A++[p],B),zar h⟩,(zcr ((2,some 2)::((16,some 16)::((14,some 14)::(pJ8 [])))) zz16),by simp⟩
    case neg =>
     rw [show (p.zcj==0)=false from zy20.2 d2];(conv=>whnf);refine zal (a:=A.map (zfz t N)) (b:=B) (s:=p) rfl zz4 (zw ?_);by_cases d3:p.zak=0
     case pos =>
      rw [show (p.zak==0)=true from zy41.2 d3];refine zai rfl (zw ?_)
      repeat refine sG ?_
      by_cases d4:N=t.cum
      case pos =>
       rw [show (N==t.cum)=true from zy41.2 d4];(conv=>whnf);have d6:zfz t N p={p with zcj:=0}:=by rw [zfz,zy0 (fun h=>d2 h.2),zy1 ⟨d3,d4⟩]
       exact yy66
      case neg =>
       rw [show (N==t.cum)=false from zy20.2 d4];(conv=>whnf);have d6:zfz t N p=p:=by rw [zfz,zy0 (fun h=>d2 h.2),zy0 (fun h=>d4 h.2)]
       exact yy26
     case neg =>
      rw [show (p.zak==0)=false from zy20.2 d3];(conv=>whnf);have d6:zfz t N p=p:=by rw [zfz,zy0 (fun h=>d2 h.2),zy0 (fun h=>d3 h.1)]
      exact yy26
   case neg =>
    rw [show decide (p.zak>0)=false from zy19 d1];(conv=>whnf);refine zal (a:=A.map (zfz t N)) (b:=B) (s:=p) rfl zz4 (zw ?_);by_cases d3:p.zak=0
    case pos =>
     rw [show (p.zak==0)=true from zy41.2 d3];refine zai rfl (zw ?_)
     repeat refine sG ?_
     by_cases d4:N=t.cum
     case pos =>
      rw [show (N==t.cum)=true from zy41.2 d4];(conv=>whnf);have d6:zfz t N p={p with zcj:=0}:=by rw [zfz,zy0 (fun h=>d1 h.1),zy1 ⟨d3,d4⟩]
      exact yy66
     case neg =>
      rw [show (N==t.cum)=false from zy20.2 d4];(conv=>whnf);have d6:zfz t N p=p:=by rw [zfz,zy0 (fun h=>d1 h.1),zy0 (fun h=>d4 h.2)]
      exact yy26
    case neg =>
     rw [show (p.zak==0)=false from zy20.2 d3];(conv=>whnf);have d6:zfz t N p=p:=by rw [zfz,zy0 (fun h=>d1 h.1),zy0 (fun h=>d3 h.1)]
     exact yy26
  | nil =>
   have hz:=zcw h;rw [zy8] at h;refine sN ?_
   (refine zac [] [(1000,16),(1001,900),(1002,901),(1003,902),(1004,903),(1005,904),(1006,905),(1007,14),(1008,906),(1009,907)] [(0,970)] ?_;(conv=>whnf);refine dG (ybe {t with paths:=A.map (zfz t N)++[]} a b zz56 zz0 zz0 km.2 kn.2) ?_)
   exact yy13
end Snd
namespace Snd
open Ser
theorem zlw (s:zab) (h:PF 62 s) (hm:inI s.config.packet) (hp:s.paths.length=1\/s.paths.length=2) :
 zao Tryz.prog 39 [s.hv] zae (.tup [(zfl s).1.hv,.p (.sl 3 ((zfl s).2.map zbb.row))]) zae:=by
 rcases hp with hp | hp
 . refine zci Tryz.func39 (yiy s h hm hp) ?_
   generalize zfl s=d;(conv=>whnf)
   rfl
 . refine zci Tryz.func39 (yiz s h hm hp) ?_
   generalize zfl s=d;(conv=>whnf)
   rfl
theorem zvj (s:zab) (hs:Fit s):zao Tryz.prog 33 [s.hv] zae s.hv zae:=by
 refine zci Tryz.func33 (zdb s hs) ?_;(conv=>whnf)
 rfl
theorem yux (s:zab):zao Tryz.prog 38 [s.hv] zae (zbk (calm s)) zae:=by
 refine zap mixed Tryz.func38 zz5 ?_;(conv=>whnf)
 (repeat' (first | (refine zcp ?_;conv=>whnf) | (refine zaa ?_ ?_;(first | kernel_rfl | decide);conv=>whnf) | (refine zbe ?_ ?_;kernel_rfl;conv=>whnf) | (refine znk.go ?_;conv=>whnf) | (refine zah (fun h=>?_) (fun h=>?_)<;>conv=>whnf)))
 all_goals try simp only [zy54,zy62,zy41,zy20,zy49,zy42,zy2] at *
 . have h':s.queue.length=0:=by omega
   show zbk _=zbk _;refine congrArg zbk ?_;rw [zy143];simp only [calm,h',zy41,zy13,zy49,true_and,decide_true];omega
 . have h':s.queue.length≠0:=by omega
   show zbk _=zbk _;refine congrArg zbk ?_;rw [calm,zy19 h',Bool.false_and]
def zmw (c:Config):Int :=
 if c.streams<1\/c.streams>4\/c.paths<1\/c.paths>2\/c.part<1\/c.part>16\/c.packet<40\/c.packet>120\/c.waiting<1\/c.waiting>12\/c.first<0\/c.first>=65536 then 3 else
 if (c).turns<1\/(c).turns>5 then 1 else 0
theorem yvp (c:Config):zao Tryz.prog 29 [c.hv] zae (i64 (zmw c)) zae:=by
 refine zap mixed Tryz.func29 zz5 ?_;(conv=>whnf)
 (repeat' (first | (refine zcp ?_;conv=>whnf) | (refine zaa ?_ ?_;(first | kernel_rfl | decide);conv=>whnf) | (refine zbe ?_ ?_;kernel_rfl;conv=>whnf) | (refine znk.go ?_;conv=>whnf) | (refine zah (fun h=>?_) (fun h=>?_)<;>conv=>whnf)))
 all_goals try simp only [zy54,zy62,zy41,zy20,zy49,zy42] at *
 all_goals first | (simp only [zmw];(repeat' split)<;>first | rfl | omega) | trace_state
end Snd
namespace Snd
open Ser
def zsc (s:zab) (m:Message):zab×Int×Int:=if zey s m=0 then (zii s m,(s.fates.length:Int),0) else (noS,0,zey s m)
theorem zst {s:zab} {m:Message} {e:Int} (h:zey s m=e) (he:e≠0):zsc s m=(noS,0,e):=by rw [zsc,h,zy0 he]
theorem yfh {s:zab} {m:Message} (h:zey s m=0):zsc s m=(zii s m,(s.fates.length:Int),0):=by rw [zsc,zy1 h]
theorem ypm (s:zab) (m:Message) (hs:Fit s) (hd:m.data.length<2 ^ 38) :
 zao Tryz.prog 31 [s.hv,m.hv] zae (.tup [xep (zsc s m).1 0 1 2 3 4 5,i64 (zsc s m).2.1,i64 (zsc s m).2.2]) (lk .free (zya (zsc s m).1 0 1 2 3 4 5 [])):=by
 have hs':=hs;obtain ⟨h1,h2,h3,h4,h5,h6,h7⟩:=hs;refine zan mixed Tryz.func31 zz5 [] (fun _=>.inl rfl) ?_;(conv=>whnf)
 (repeat' (first | (refine zcp ?_;conv=>whnf) | (refine zaa ?_ ?_;(first | kernel_rfl | decide);conv=>whnf) | (refine zbe ?_ ?_;kernel_rfl;conv=>whnf) | (refine znk.go ?_;conv=>whnf) | (refine zah (fun h=>?_) (fun h=>?_)<;>conv=>whnf)))
 all_goals try simp only [zy54,zy62,zy41,zy20,zy49,zy42,zy2] at *
 all_goals first
  | (rw [zst (e:=3) (by simp only [zey];(repeat' split)<;>first | rfl | omega) (by decide)];exact zam [(0,none),(1,none),(2,none),(3,none),(4,none),(5,none)] rfl rfl trivial rfl rfl ⟨⟨rfl,.inr ⟨rfl,rfl⟩⟩,⟨rfl,.inr ⟨rfl,rfl⟩⟩,⟨rfl,.inr ⟨rfl,rfl⟩⟩,⟨rfl,.inr ⟨rfl,rfl⟩⟩,⟨rfl,.inr ⟨rfl,rfl⟩⟩,⟨rfl,.inr ⟨rfl,rfl⟩⟩,trivial⟩)
  | (rw [zst (e:=4) (by simp only [zey];(repeat' split)<;>first | rfl | omega) (by decide)];exact zam [(0,none),(1,none),(2,none),(3,none),(4,none),(5,none)] rfl rfl trivial rfl rfl ⟨⟨rfl,.inr ⟨rfl,rfl⟩⟩,⟨rfl,.inr ⟨rfl,rfl⟩⟩,⟨rfl,.inr ⟨rfl,rfl⟩⟩,⟨rfl,.inr ⟨rfl,rfl⟩⟩,⟨rfl,.inr ⟨rfl,rfl⟩⟩,⟨rfl,.inr ⟨rfl,rfl⟩⟩,trivial⟩)
  | (rw [zst (e:=7) (by simp only [zey];(repeat' split)<;>first | rfl | omega) (by decide)];exact zam [(0,none),(1,none),(2,none),(3,none),(4,none),(5,none)] rfl rfl trivial rfl rfl ⟨⟨rfl,.inr ⟨rfl,rfl⟩⟩,⟨rfl,.inr ⟨rfl,rfl⟩⟩,⟨rfl,.inr ⟨rfl,rfl⟩⟩,⟨rfl,.inr ⟨rfl,rfl⟩⟩,⟨rfl,.inr ⟨rfl,rfl⟩⟩,⟨rfl,.inr ⟨rfl,rfl⟩⟩,trivial⟩)
  | rw [yfh (by simp only [zey];(repeat' split)<;>first | rfl | omega)]
 (refine zas [(0,20),(1,21),(2,22),(3,23),(4,24),(5,25)]  ?_;(conv=>whnf);refine dO (zdb s hs') ?_)
 (refine zas [(0,26)]  ?_;(conv=>whnf);refine dO (Cl.zct m.data zz0) ?_)
 refine zaa (c:=((s.queue.map zaf.row).length+1)*96<=140737488355328) zz3 (zw ?_);refine zaa (c:=((s.fates.map fun n=>[pi n]).length+1)*8<=140737488355328) zz3 (zw ?_);refine zam [(0,some 80),(1,some 21),(2,some 22),(3,some 23),(4,some 24),(5,some 85)] rfl rfl trivial rfl (by rw [show (s.fates.length:Int)=((s.fates.map fun n=>[pi n]).length:Nat) by rw [zy2]];rfl) ⟨⟨rfl,.inl ⟨80,rfl,?_⟩⟩,⟨rfl,.inl ⟨21,rfl,rfl⟩⟩,⟨rfl,.inl ⟨22,rfl,rfl⟩⟩,⟨rfl,.inl ⟨23,rfl,rfl⟩⟩,⟨rfl,.inl ⟨24,rfl,rfl⟩⟩,⟨rfl,.inl ⟨85,rfl,?_⟩⟩,trivial⟩
 . exact zca (f:=zaf.row) rfl (by rw [zy2];rfl)
 . exact zca (f:=fun n:Int=>[pi n]) rfl rfl
theorem zpd (s:zab) (m:Message) (hs:Fit s) (hd:m.data.length<2 ^ 38) :
 zao Tryz.prog 31 [s.hv,m.hv] zae (.tup [(zsc s m).1.hv,i64 (zsc s m).2.1,i64 (zsc s m).2.2]) zae:=by
 refine zci Tryz.func31 (ypm s m hs hd) ?_;generalize zsc s m=d;(conv=>whnf)
 rfl
end Snd
namespace Snd
open Ser
theorem yog {l:List zbr} (i:Int) (h:Sco.zgb l):Sco.zgb (l.map (Sco.late i)):=⟨by simpa using h.len,by
 have:Sco.total (l.map (Sco.late i))=Sco.total l:=by
  simp only [Sco.total,zy95];congr 1;apply zy86;intro x _;simp only [Function.comp,Sco.late];split<;>rfl
 rw [this];exact h.bytes⟩
def yhz (part:Int) (s:zab) (i:Nat) (p:Path):zab:={s with out:=s.out.map (Sco.late i),paths:=s.paths.set i (Paths.late p part)}
theorem zxk {part:Int} {s:zab} {i:Nat} {p:Path} (hp:s.paths[i]?=some p) (h:p.zcj=0\/s.clock<p.zcj):zem part s i=s:=by
 simp only [zem,hp];rw [zy1 h]
theorem yxw {part:Int} {s:zab} {i:Nat} {p:Path} (hp:s.paths[i]?=some p) (h:¬ (p.zcj=0\/s.clock<p.zcj)):zem part s i=if (Sco.zdy (yhz part s i p).out s.cum).1>s.cum then {yhz part s i p with forward:=true} else yhz part s i p:=by
 simp only [zem,hp];rw [zy0 h];rfl
abbrev tkF (s t:zab):List (Nat×zad):=(1,.live (.cells 32 (xbg s (Sch.qs s.queue) (ints s.sched.had) (Sco.zsd s.out) (xhm s.paths) (ints s.mids) (ints s.fates))))::(2,.live (.cells 32 ypz))::(3,.live (.cells 32 (xbg t (.own 900) (.own 901) (.own 902) (.own 903) (.own 904) (.own 905))))::zya t 900 901 902 903 904 905 []
theorem ypq (s:zab) (hs:Fit s):zao Tryz.prog 36 [s.hv] zae (xep (tick s) 0 1 2 3 4 5) (lk .free (zya (tick s) 0 1 2 3 4 5 [])):=by
 have hs':=hs;obtain ⟨h1,h2,h3,h4,h5,h6,h7⟩:=hs;have hT:(List.range s.paths.length).foldl (zem s.config.part) {s with clock:=W (s.clock+1)}=tick s:=rfl;generalize tick s=T at hT ⊢;refine zan mixed Tryz.func36 zz5 [] (fun _=>.inl rfl) ?_;(conv=>whnf)
 (refine zas [(0,20),(1,21),(2,22),(3,23),(4,24),(5,25)]  ?_;(conv=>whnf);refine dO (zdb s hs') ?_)
 refine sR ?_;refine ⟨{x:Nat×zab // x.1<=s.paths.length/\(List.range x.1).foldl (zem s.config.part) {s with clock:=W (s.clock+1)}=x.2/\Sco.zgb x.2.out/\x.2.paths.length=s.paths.length},
  fun | ⟨(i,t),_⟩=>hs 61 [(1,.ptr 1 0),(2,.ptr 2 0),(3,.ptr 3 0),(15,.own 903),(16,i64 s.paths.length),(17,i64 i)] (tkF s t),fun x=>s.paths.length-x.1.1,⟨(0,{s with clock:=W (s.clock+1)}),by dsimp only;omega,rfl,h3,rfl⟩,?_,?_⟩
 . exact (zdx [(1,some 1),(2,some 2),(3,some 3),(900,some 20),(901,some 21),(902,some 22),(903,some 23),(904,some 24),(905,some 25)])
 rintro ⟨⟨i,t⟩,k1,k2,k3,k4⟩;dsimp only at k1 k2 k3 k4;(conv=>whnf);by_cases hi:i<s.paths.length
 case neg =>
  have hin:i=s.paths.length:=by omega
  subst hin;refine sN ?_;rw [hT] at k2;subst k2;exact zam [(0,some 900),(1,some 901),(2,some 902),(3,some 903),(4,some 904),(5,some 905)] rfl rfl trivial rfl rfl ⟨⟨rfl,.inl ⟨900,rfl,rfl⟩⟩,⟨rfl,.inl ⟨901,rfl,rfl⟩⟩,⟨rfl,.inl ⟨902,rfl,rfl⟩⟩,⟨rfl,.inl ⟨903,rfl,rfl⟩⟩,⟨rfl,.inl ⟨904,rfl,rfl⟩⟩,⟨rfl,.inl ⟨905,rfl,rfl⟩⟩,trivial⟩
 case pos =>
  obtain ⟨p,hp⟩:∃ p,t.paths[i]?=some p:=⟨_,zy3 zz0⟩
  have hst:=zmi (zem s.config.part) {s with clock:=W (s.clock+1)} i;rw [k2] at hst;refine sT ?_;refine sOm ?_;refine zaj hp rfl (zw ?_);by_cases c1:p.zcj=0
  case pos =>
   rw [show (p.zcj==0)=true from zy41.2 c1];(conv=>whnf);refine sF ?_;exact ⟨⟨(i+1,t),by dsimp only;omega,by rw [hst,zxk hp (.inl c1)],k3,k4⟩,(zcr ((1,some 1)::(2,some 2)::(3,some 3)::(pJ6 [])) zz2),by dsimp only;omega⟩
  case neg =>
   rw [show (p.zcj==0)=false from zy20.2 c1];refine zag rfl (zw ?_)
   repeat refine sG ?_
   by_cases c2:t.clock<p.zcj
   case pos =>
    rw [show decide (t.clock<p.zcj)=true from zy16 c2];(conv=>whnf);refine sF ?_;exact ⟨⟨(i+1,t),by dsimp only;omega,by rw [hst,zxk hp (.inr c2)],k3,k4⟩,(zcr ((1,some 1)::(2,some 2)::(3,some 3)::(pJ6 [])) zz2),by dsimp only;omega⟩
   case neg =>
    rw [show decide (t.clock<p.zcj)=false from zy19 c2];(conv=>whnf);have hgo:=yxw (part:=s.config.part) hp (fun h=>h.elim c1 c2)
    (refine zas [(0,35)]  ?_;(conv=>whnf);refine dO (Sco.zvh t.out i k3) ?_)
    (refine cL ?_;refine dL (Paths.zvh p s.config.part) ?_)
    refine zaa ⟨by omega,by rw [zy2];omega⟩ (zw ?_);refine zaj hp rfl (zw ?_);refine sD ?_
    (refine zac [] [(1000,35)] [(0,51)] ?_;(conv=>whnf);refine dG (Sco.zeu (t.out.map (Sco.late i)) t.cum (by rw [zy2];exact k3.len)) ?_)
    have hsz:=yog i k3;by_cases c3:(Sco.zdy (t.out.map (Sco.late i)) t.cum).1>t.cum
    case pos =>
     rw [zy1 (show (Sco.zdy (yhz s.config.part t i p).out t.cum).1>t.cum from c3)] at hgo;refine zai ?_ ?_
     . simpa using c3
     (conv=>whnf);refine sF ?_;exact ⟨⟨(i+1,{yhz s.config.part t i p with forward:=true}),by dsimp only;omega,by rw [hst,hgo],hsz,by show (t.paths.set i _).length=_;rw [zy30];exact k4⟩,(zcr [(1,some 1),(2,some 2),(3,some 3),(900,some 900),(901,some 901),(902,some 35),(903,some 903),(904,some 904),(905,some 905)] zz32),by dsimp only;omega⟩
    case neg =>
     rw [zy0 (show ¬ (Sco.zdy (yhz s.config.part t i p).out t.cum).1>t.cum from c3)] at hgo;refine zag ?_ ?_
     . simpa using c3
     (conv=>whnf);refine sF ?_;exact ⟨⟨(i+1,yhz s.config.part t i p),by dsimp only;omega,by rw [hst,hgo],hsz,by show (t.paths.set i _).length=_;rw [zy30];exact k4⟩,(zcr [(1,some 1),(2,some 2),(3,some 3),(900,some 900),(901,some 901),(902,some 35),(903,some 903),(904,some 904),(905,some 905)] zz32),by dsimp only;omega⟩
theorem yvm (s:zab) (hs:Fit s):zao Tryz.prog 36 [s.hv] zae (tick s).hv zae:=by
 refine zci Tryz.func36 (ypq s hs) ?_;generalize tick s=d;(conv=>whnf)
 rfl
end Snd
namespace Snd
open Ser
def ywa (c:Config):zab×Int:=if zmw c=0 then (yok c,0) else (noS,zmw c)
theorem yvc (n:Int) (hb:n<2 ^ 40):zao Tryz.prog 66 [i64 n] zae (.agg [i64 (Sch.new n).last,i64 (Sch.new n).hand,.own 0]) (lk .free [(0,yov (Sch.new n).had)]):=by
 refine zan mixed Tryz.func66 zz5 [] (fun _=>.inl rfl) ?_;(conv=>whnf);refine zcp (zw ?_);refine zaa (c:=0<=(if 0>n then 0 else n)/\(if 0>n then 0 else n)=(if 0>n then 0 else n)/\(if 0>n then 0 else n)*8<=140737488355328) zz0 ?_;(conv=>whnf);refine zam [(0,some 7)] rfl rfl trivial rfl rfl ⟨⟨rfl,.inl ⟨7,rfl,?_⟩⟩,trivial⟩;have e:(if 0>n then 0 else n)=max n 0:=by omega
 refine zaq ?_;rw [show (Sch.new n).had=List.replicate (max n 0).toNat 0 from rfl,zy146,<- e];rfl
theorem yvd (c:Config):zao Tryz.prog 26 [c.hv] zae (.tup [xep (ywa c).1 0 1 2 3 4 5,i64 (ywa c).2]) (lk .free (zya (ywa c).1 0 1 2 3 4 5 [])):=by
 refine zan mixed Tryz.func26 zz5 [] (fun _=>.inl rfl) ?_;(conv=>whnf)
 (refine cP ?_;refine dL (yvp c) ?_)
 by_cases c0:zmw c=0
 case neg =>
  rw [ywa,zy0 c0];refine zai ?_ ?_
  . simpa using c0
  (conv=>whnf);refine zam [(0,none),(1,none),(2,none),(3,none),(4,none),(5,none)] rfl rfl trivial rfl rfl ⟨⟨rfl,.inr ⟨rfl,rfl⟩⟩,⟨rfl,.inr ⟨rfl,rfl⟩⟩,⟨rfl,.inr ⟨rfl,rfl⟩⟩,⟨rfl,.inr ⟨rfl,rfl⟩⟩,⟨rfl,.inr ⟨rfl,rfl⟩⟩,⟨rfl,.inr ⟨rfl,rfl⟩⟩,trivial⟩
 case pos =>
  rw [ywa,zy1 c0];refine zag ?_ ?_
  . simpa using c0
  conv=>whnf
  repeat refine sG ?_
  have hb:1<=c.streams/\c.streams<=4/\1<=c.paths/\c.paths<=2/\0<=c.first/\c.first<65536:=by
   unfold zmw at c0;split at c0
   . cases c0
   . omega
  obtain ⟨b1,b2,b3,b4,b5,b6⟩:=hb
  (refine zas [(0,15)]  ?_;(conv=>whnf);refine dO (yvc c.streams zz0) ?_)
  refine zat (z:=c.first-1) (zbh zz0 zz0) (zw ?_);refine zat (z:=2*c.streams) (zbh zz0 zz0) (zw ?_);refine zaa (c:=0<=2*c.streams/\2*c.streams=2*c.streams/\2*c.streams*(8:Nat)<=140737488355328) ⟨by omega,rfl,by omega⟩ (zw ?_);refine zat (z:=c.first-1) (zbh zz0 zz0) (zw ?_);refine sD ?_;have hnn:(2*c.streams).toNat=(2*c.streams).toNat:=rfl;refine ⟨{i:Nat // (i:Int)<=c.paths},fun | ⟨i,_⟩=>hs 43 [(1,.ptr 1 0),(2,.ptr 2 0),(3,i64 0),(5,.ptr 5 0),(30,i64 c.paths),(31,i64 i)] [(1,.live (.cells 24 [i64 c.streams,i64 c.part,i64 c.packet,i64 c.paths,i64 (c).turns,i64 c.waiting,i64 c.first])),(2,.live (.cells 32 ypz)),(5,.live (.cells 32 (xbg (yok c) zgk (.own 901) zgk (.own 900) (.own 902) zgk))),(900,xit (List.replicate i (Paths.new c.part))),(901,yov (Sch.new c.streams).had),(902,yov (List.replicate (2*c.streams).toNat 0))],fun i=>c.paths.toNat-i.1,⟨0,by omega⟩,?_,?_⟩
  . exact (zcr [(1,some 1),(2,some 2),(5,some 5),(900,none),(901,some 15),(902,some 24)] (by repeat' (first | exact z0 | refine z1 ?_ | refine ⟨?_,?_⟩ | ((exact zaq (by rw [zy146];rfl))) | exact z2)))
  rintro ⟨i,k1⟩;(conv=>whnf);by_cases hi:(i:Int)<c.paths
  case pos =>
   refine sT ?_
   (refine cL ?_;refine dL (Paths.zpb c.part) ?_)
   refine zaa (c:=(((List.replicate i (Paths.new c.part)).map Path.row).length+1)*56<=140737488355328) zz3 (zw ?_);refine sD ?_;refine sF ?_;exact ⟨⟨i+1,by omega⟩,(zcr [(1,some 1),(2,some 2),(5,some 5),(900,some 39),(901,some 901),(902,some 902)] (by repeat' (first | exact z0 | refine z1 ?_ | refine ⟨?_,?_⟩ | ((exact zca (f:=Path.row) List.replicate_succ' rfl)) | exact z2))),by dsimp only;omega⟩
  case neg =>
   refine sN ?_;have hin:c.paths.toNat=i:=by omega
   refine zam [(0,none),(1,some 901),(2,none),(3,some 900),(4,some 902),(5,none)] rfl rfl trivial rfl rfl ⟨⟨rfl,.inr ⟨rfl,rfl⟩⟩,⟨rfl,.inl ⟨901,rfl,rfl⟩⟩,⟨rfl,.inr ⟨rfl,rfl⟩⟩,⟨rfl,.inl ⟨900,rfl,?_⟩⟩,⟨rfl,.inl ⟨902,rfl,rfl⟩⟩,⟨rfl,.inr ⟨rfl,rfl⟩⟩,trivial⟩;exact zaq (by rw [yok,hin])
theorem zpb (c:Config):zao Tryz.prog 26 [c.hv] zae (.tup [(ywa c).1.hv,i64 (ywa c).2]) zae:=by
 refine zci Tryz.func26 (yvd c) ?_;generalize ywa c=d;(conv=>whnf)
 rfl
end Snd
namespace Snd
open Ser
theorem zwa {g:FuncId} {c1:List PV} {p:zaf->Bool} (hg:∀ m:zaf,zao Tryz.prog g [m.hv,.rp c1] zae (zbk (p m)) zae) (q:List zaf) (hb:q.length<2 ^ 62) :
 zao Tryz.prog 158 [.p (.sl 10 (q.map zaf.row)),.clo g [.rp c1]] zae (i64 (zbq p 0 q)) zae:=by
 refine zap mixed Tryz.func158 zz5 ?_;(conv=>whnf);refine ⟨{k:Nat // k<=q.length/\zbq p k (q.drop k)=zbq p 0 q},fun | ⟨k,_⟩=>hs 19 [(0,.p (.sl 10 (q.map zaf.row))),(1,.clo g [.rp c1]),(7,i64 (q.map zaf.row).length),(8,i64 k)] [],fun k=>q.length-k.1,⟨0,by simp⟩,?_,?_⟩
 . exact (zdx [])
 . rintro ⟨k,hk,hi⟩
   exact yy5
theorem ynn {g:FuncId} {c1:List PV} {p:zaf->Bool} (hg:∀ m:zaf,zao Tryz.prog g [m.hv,.rp c1] zae (zbk (p m)) zae) (q:List zaf) (hb:q.length<2 ^ 62) :
 zao Tryz.prog 124 [.p (.sl 10 (q.map zaf.row)),.clo g [.rp c1]] zae (zbk (q.any p)) zae:=by
 refine zap mixed Tryz.func124 zz5 ?_;(conv=>whnf)
 (refine cL ?_;refine dL (zwa hg q hb) ?_)
 rw [zzv q 0]
theorem ycc {g:FuncId} {c1:List PV} {p:zbr->Bool} (hg:∀ m:zbr,zao Tryz.prog g [m.hv,.rp c1] zae (zbk (p m)) zae) (q:List zbr) (hb:q.length<2 ^ 62) :
 zao Tryz.prog 159 [.p (.sl 20 (q.map zbr.row)),.clo g [.rp c1]] zae (i64 (zbq p 0 q)) zae:=by
 refine zap mixed Tryz.func159 zz5 ?_;(conv=>whnf);refine ⟨{k:Nat // k<=q.length/\zbq p k (q.drop k)=zbq p 0 q},fun | ⟨k,_⟩=>hs 19 [(0,.p (.sl 20 (q.map zbr.row))),(1,.clo g [.rp c1]),(7,i64 (q.map zbr.row).length),(8,i64 k)] [],fun k=>q.length-k.1,⟨0,by simp⟩,?_,?_⟩
 . exact (zdx [])
 . rintro ⟨k,hk,hi⟩
   exact yy5
theorem ywm {g:FuncId} {c1:List PV} {p:zbr->Bool} (hg:∀ m:zbr,zao Tryz.prog g [m.hv,.rp c1] zae (zbk (p m)) zae) (q:List zbr) (hb:q.length<2 ^ 62) :
 zao Tryz.prog 126 [.p (.sl 20 (q.map zbr.row)),.clo g [.rp c1]] zae (zbk (q.any p)) zae:=by
 refine zap mixed Tryz.func126 zz5 ?_;(conv=>whnf)
 (refine cL ?_;refine dL (ycc hg q hb) ?_)
 rw [zzv q 0]
theorem yvi (id:Int) (m:zaf):zao Tryz.prog 125 [m.hv,.rp [pi id]] zae (zbk (decide (m.id=id))) zae:=by
 refine zap mixed Tryz.func125 zz5 ?_;(conv=>whnf)
 try rfl
theorem yvj (id:Int) (x:zbr):zao Tryz.prog 127 [x.hv,.rp [pi id]] zae (zbk (decide (x.id=id)&&decide (x.state≠2))) zae:=by
 refine zap mixed Tryz.func127 zz5 ?_;(conv=>whnf)
 (repeat' (first | (refine zcp ?_;conv=>whnf) | (refine zaa ?_ ?_;(first | kernel_rfl | decide);conv=>whnf) | (refine zbe ?_ ?_;kernel_rfl;conv=>whnf) | (refine znk.go ?_;conv=>whnf) | (refine zah (fun h=>?_) (fun h=>?_)<;>conv=>whnf)))
 all_goals try simp only [zy54,zy62,zy41,zy20,zy49,zy42] at *
 . show zbk _=zbk _
   refine congrArg zbk ?_;rw [zy143];simp [*]
 . show zbk _=zbk _
   refine congrArg zbk ?_;rw [zy143];simp [*]
theorem zzw {α β:Type} (f:Nat->α->β) (A:List α) (p:α) (B:List β):(A++[p]).mapIdx f++B=A.mapIdx f++f A.length p::B:=by
 rw [List.mapIdx_concat];simp
theorem zdm (s:zab)  (hs:Fit s):zao Tryz.prog 82 [.ptr 1000 0] (lk .free (pH0 s )) (.tup []) (lk .free (pD0 (settle s) )):=by
 obtain ⟨h1,h2,h3,h4,h5,h6,h7⟩:=hs;refine zan mixed Tryz.func82 zz5 [1000,1001,1002,1003,1004,1005,1006] zbi ?_;(conv=>whnf);refine ⟨{x:List Int×List Int // s.fates=x.1++x.2},fun | ⟨(A,B),_⟩=>hsP [1000,1001,1002,1003,1004,1005,1006] 41 [(0,.ptr 1000 0),(7,.own 1006),(8,i64 s.fates.length),(9,i64 A.length)] (pH0 {s with fates:=A.mapIdx (settled s)++B} ),fun x=>x.1.2.length,⟨([],s.fates),rfl⟩,?_,?_⟩
 . exact (zbu (pK7 []) zz2)
 rintro ⟨⟨A,B⟩,h⟩;dsimp only at h;(conv=>whnf);cases B with
 | cons f B =>
  have hz:=zcf h;refine sT ?_;refine sOm ?_;refine zal (f:=fun n:Int=>[pi n]) (a:=A.mapIdx (settled s)) (b:=B) (s:=f) rfl zz4 (zw ?_);by_cases c1:f=1
  case neg =>
   rw [show (f==1)=false from zy20.2 c1];(conv=>whnf);refine sF ?_;exact ⟨⟨(A++[f],B),zar h⟩,(zbu (pK7 []) (by repeat' (first | exact z0 | refine z1 ?_ | refine ⟨?_,?_⟩ | ((exact zaq (by rw [zzw,settled,zy0 (fun h=>c1 h.1)]))) | exact z2))),by simp⟩
  case pos =>
   rw [show (f==1)=true from zy41.2 c1];refine zai rfl (zw ?_)
   (refine cL ?_;refine dL (ynn (fun m=>yvi (A.length:Int) m) s.queue zz0) ?_)
   cases c2:(s.queue.any fun m=>decide (m.id=(A.length:Int))) with
   | true =>
    conv=>whnf
    try (refine zag rfl ?_;conv=>whnf)
    (conv=>whnf);refine sF ?_;exact ⟨⟨(A++[f],B),zar h⟩,(zbu (pK7 []) (by repeat' (first | exact z0 | refine z1 ?_ | refine ⟨?_,?_⟩ | ((exact zaq (by rw [zzw,settled,zy0 (fun h=>absurd (c2.symm.trans h.2.1) (by decide))]))) | exact z2))),by simp⟩
   | false =>
    conv=>whnf
    try (refine zai rfl ?_;conv=>whnf)
    repeat refine sG ?_
    (refine cL ?_;refine dL (ywm (fun x=>yvj (A.length:Int) x) s.out (by have:=h3.len;omega)) ?_)
    cases c3:(s.out.any fun x=>decide (x.id=(A.length:Int))&&decide (x.state≠2)) with
    | true =>
     (conv=>whnf);refine sF ?_;exact ⟨⟨(A++[f],B),zar h⟩,(zbu (pK7 []) (by repeat' (first | exact z0 | refine z1 ?_ | refine ⟨?_,?_⟩ | ((exact zaq (by rw [zzw,settled,zy0 (fun h=>absurd (c3.symm.trans h.2.2) (by decide))]))) | exact z2))),by simp⟩
    | false =>
     (conv=>whnf);refine sOm ?_;refine zal (f:=fun n:Int=>[pi n]) (a:=A.mapIdx (settled s)) (b:=B) (s:=f) rfl zz4 (zw ?_);refine sD ?_;refine sF ?_;exact ⟨⟨(A++[f],B),zar h⟩,(zbu (pK7 []) (by repeat' (first | exact z0 | refine z1 ?_ | refine ⟨?_,?_⟩ | ((rw [zzw,settled,zy1 ⟨c1,c2,c3⟩];refine Eq.symm (zer (f:=fun n:Int=>[pi n]) (a:=A.mapIdx (settled s)) (b:=B) ?_ ?_);all_goals first | rfl | (simp;done))) | exact z2))),by simp⟩
 | nil =>
  have hz:=zcw h;rw [zy8] at h;refine sN ?_
  (exact zdc (pK7 [(0,some 1001),(1,some 1002),(2,some 1003),(3,some 1004),(4,some 1005),(5,some 1006)]) (by repeat' (first | exact z0 | refine z1 ?_ | refine ⟨?_,?_⟩ | ((exact zaq (by rw [settle,h,zy8]))) | exact z2)))
end Snd
namespace Sco
open Ser
theorem ypk (l:List zbr) (cum:Int) (c:Chunk) (paths:Int) (hl:zgb l) (hr:ynh l cum paths) (hsp:c.zau.length<2 ^ 60) :
 zao Tryz.prog 75 [zsd l,i64 cum,c.hv,i64 paths] zae (.tup [.own 0,i64 (zfq l cum c paths).2.1,.own 1,.own 2]) (lk .free [(0,zjs (zfq l cum c paths).1),(1,yqc (zfq l cum c paths).2.2.1),(2,yqc (zfq l cum c paths).2.2.2)]):=by
 have hl1:=hl.len;have hp0:=hr.p0;have hp1:=hr.p1;have hc0:=hr.c0;have hc1:=hr.c1;refine zan mixed Tryz.func75 zz5 [] (fun _=>.inl rfl) ?_;have hn:=zlo (a:=cum) (t:=c.tag) zz0 zz0;rw [zfq];generalize hN:zdf cum c.tag=n at hn ⊢;(conv=>whnf);refine zaa (c:=0<=(if 0>paths then 0 else paths)/\(if 0>paths then 0 else paths)=(if 0>paths then 0 else paths)/\(if 0>paths then 0 else paths)*8<=140737488355328) zz0 ?_;(conv=>whnf)
 (refine cL ?_;refine dLm (zjv _ _) ?_)
 rw [hN];(conv=>whnf);refine znk.meet PUnit (fun _=>hs 165 [(0,zsd l),(1,i64 cum),(6,.ptr 6 0),(8,zgk),(10,.own 900),(11,zgk),(12,i64 n),(13,i64 (cum+l.length))] [(6,.live (.cells 61 c.cells)),(900,yqc (List.replicate paths.toNat 0))]) ?_ ?_
 . have e21:zad.live (.row 3 1 (List.replicate (if 0>paths then 0 else paths).toNat [pi 0]))=yqc (List.replicate paths.toNat 0):=by
    rw [zy0 (by omega),yqc,zy146]
   (conv=>whnf);refine zah (fun c1=>?_) (fun c1=>?_)
   . have c1:0<l.length:=by simpa using c1
     have e1:=hr.zky (l.length-1) (l[l.length-1]) (zy3 zz0);(conv=>whnf);refine sF ?_;refine zdk (l.length-1) zz3 zz0 ?_;(conv=>whnf);exact ⟨⟨⟩,(zcr [(6,some 6),(900,some 21)] zz42)⟩
   . have c1:l.length=0:=by simpa using c1
     (conv=>whnf);exact ⟨⟨⟩,(zcr [(6,some 6),(900,some 21)] zz42)⟩
 rintro ⟨⟩;(conv=>whnf);by_cases k1:n<cum\/n>cum+l.length
 . rw [zy1 k1]
   by_cases k2:n<cum
   . refine sT ?_
     exact yy43
   . refine sN ?_
     refine sT ?_;exact yy43
 . rw [zy0 k1]
   refine sN ?_;refine sN ?_
   (refine zas [(0,50)]  ?_;(conv=>whnf);refine dO (zdb l hl) ?_)
   refine ⟨{x:List zbr×List zbr×List zbr×List Int×Int // SI l c n paths.toNat cum x},fun | ⟨(a,b,out,zfw,high),_⟩=>hs 165 [(6,.ptr 6 0),(8,.own 901),(10,.own 900),(11,zgk),(12,i64 n),(14,i64 high),(50,.own 902),(51,i64 l.length),(52,i64 a.length)] [(6,.live (.cells 61 c.cells)),(900,yqc zfw),(901,zjs out),(902,zjs l)],fun x=>x.1.2.1.length,⟨([],l,[],List.replicate paths.toNat 0,0),rfl,rfl,rfl,rfl,zy99 _,by dsimp only;simp;omega⟩,?_,?_⟩
   . exact (zdx [(6,some 6),(900,some 900),(901,none),(902,some 50)])
   rintro ⟨⟨a,b,out,zfw,high⟩,hi⟩;have h:=hi.split;dsimp only at h;cases b with
   | nil =>
    have hz:=zcw h;obtain ⟨h1,h2,h3,h4,h5,h6⟩:=hi;dsimp only at h1 h2 h3 h4 h5 h6;rw [zy8] at h1;subst h1;rw [<- h3,<- h4,<- h2];have hlen:out.length<=l.length:=by rw [h2,left,zy2];exact zy66 _ _
    (conv=>whnf);refine sN ?_;refine ⟨{x:List zbr×List zbr // out=x.1++x.2},fun | ⟨(a,b),_⟩=>hs 165 [(8,.own 901),(10,.own 900),(11,.own 903),(12,i64 n),(14,i64 high),(118,i64 out.length),(119,i64 a.length)] [(900,yqc zfw),(901,zjs (a.map (age high)++b)),(903,yqc (lost high a))],fun x=>x.1.2.length,⟨([],out),rfl⟩,?_,?_⟩
    . exact (zdx [(900,some 900),(901,some 901),(903,none)])
    rintro ⟨⟨a,b⟩,h⟩;dsimp only at h;cases b with
    | nil =>
     have hz:=zcw h;rw [zy8] at h;subst h;(conv=>whnf);refine sN ?_;exact zam [(0,some 901),(1,some 900),(2,some 903)] rfl rfl trivial rfl rfl ⟨⟨rfl,.inl ⟨901,rfl,by exact zaq (by rw [zy8])⟩⟩,⟨rfl,.inl ⟨900,rfl,rfl⟩⟩,⟨rfl,.inl ⟨903,rfl,rfl⟩⟩,trivial⟩
    | cons s b =>
     have hz:=zcf h;have ea:(a++[s]).map (age high)++b=a.map (age high)++age high s::b:=by simp
     have el:lost high (a++[s])=lost high a++lost high [s]:=by simp [lost]
     have hln:(lost high a).length<=a.length:=by rw [lost,zy2];exact zy66 _ _
     (conv=>whnf);refine sT ?_
     (try refine sG ?_)
     refine sO ?_;refine zal (a:=a.map (age high)) (b:=b) (s:=s) rfl zz4 (zw ?_);by_cases c1:s.state=1
     . refine sN ?_
       refine zal (a:=a.map (age high)) (b:=b) (s:=s) rfl zz4 (zw ?_);by_cases c2:s.number<high
       . refine sN ?_
         refine zal (a:=a.map (age high)) (b:=b) (s:=s) rfl zz4 (zw ?_);refine sR ?_;refine zal (a:=a.map (age high)) (b:=b) (s:=s) rfl zz4 (zw ?_);refine zbt zz4 zz4 (zw ?_);by_cases c3:W (s.missed+1)>=3
         . have e1:age high s={s with missed:=W (s.missed+1),state:=3}:=by rw [age,zy1 ⟨c1,c2⟩,zy1 c3]
           have e2:lost high [s]=[s.number]:=by simp [lost,c1,c2,c3]
           refine sT ?_;refine zbt zz4 zz4 (zw ?_);refine zbt zz4 zz4 (zw ?_);refine zaa (c:=(((lost high a).map fun n=>[pi n]).length+1)*8<=140737488355328) zz15 (zw ?_);refine sF ?_;exact ⟨⟨(a++[s],b),zar h⟩,(zcr [(900,some 900),(901,some 901),(903,some 159)] (by repeat' (first | exact z0 | refine z1 ?_ | refine ⟨?_,?_⟩ | ((rw [ea];exact (yzg (by simp) (by rw [e1];rfl)).symm)) | ((rw [el,e2];exact (ziw (f:=fun n=>[pi n]) rfl).symm)) | exact z2))),by simp⟩
         . have e1:age high s={s with missed:=W (s.missed+1)}:=by rw [age,zy1 ⟨c1,c2⟩,zy0 c3]
           have e2:lost high [s]=[]:=by simp [lost,c1,c2,c3]
           refine sN ?_;refine sF ?_;exact ⟨⟨(a++[s],b),zar h⟩,(zcr [(900,some 900),(901,some 901),(903,some 903)] (by repeat' (first | exact z0 | refine z1 ?_ | refine ⟨?_,?_⟩ | ((rw [ea];exact (zer (by simp) (by rw [e1];rfl)).symm)) | ((rw [el,e2,zy8];rfl)) | exact z2))),by simp⟩
       . have e1:age high s=s:=by rw [age,zy0 fun h=>c2 h.2]
         have e2:lost high [s]=[]:=by simp [lost,c2]
         exact yy87
     . have e1:age high s=s:=by rw [age,zy0 fun h=>c1 h.1]
       have e2:lost high [s]=[]:=by simp [lost,c1]
       exact yy87
   | cons s b =>
    have hz:=zcf h;obtain ⟨hnum,hpa0,hpa1⟩:=hr.at h;have hnx:=hi.next hnum hc0;have hhi:=hi.h1;have hh0:=hi.h0;have hcl:=hi.zfw;have hol:out.length<=a.length:=by have:=hi.out;dsimp only at this;rw [this,left,zy2];exact zy66 _ _
    dsimp only at hhi hh0 hcl;have hcl:zfw.length=paths.toNat:=by rw [hcl,zwp]
    have hby:=hl.bytes;rw [h,zjz,zhl] at hby;(conv=>whnf);refine sT ?_;refine sO ?_;refine zal h rfl (zw ?_);by_cases g:s.number>n
    . refine sT ?_
      refine sR ?_
      (refine cL ?_;refine dL (ymv c.zau _ zz0) ?_)
      by_cases hh:has c.zau (W (s.number-n))=true
      . have hk:here c n s=true:=by rw [here,hh];simp
        refine sN ?_;have eA:zad.live (.row 3 1 ((zfw.map fun n=>[pi n]).set s.path.toNat [pi (W (zfw[s.path.toNat]'zz0+((s.chunk.data.map zdu).length:Int)))]))=yqc (zym zfw s.path s.chunk.data.length):=by
         rw [zym,yqc,zy107,zy3 (by omega),zy137,zy2]
        by_cases q:s.state=1\/s.state=3
        . have hcm:comes c n s=true:=by rw [comes,hk,zy155];rcases q with q | q<;>rw [q]<;>rfl
          rw [zy1 g,zic,zy1 hcm,znm,zy1 hcm,zbp,zy1 hcm] at hnx;have emx:(if s.number>high then s.number else high)=s.number:=by split<;>omega
          by_cases q1:s.state=1
          . refine sT ?_
            (repeat' (first | refine sT ?_ | refine sN ?_))
            refine sO ?_;refine zdk s.path.toNat zz0 zz0 (zw ?_);refine sR ?_;refine sO ?_;refine zdk s.path.toNat zz0 zz0 (zw ?_);refine sD ?_;exact yy23
          . refine sN ?_
            refine sT ?_
            (repeat' (first | refine sT ?_ | refine sN ?_))
            refine sO ?_;refine zdk s.path.toNat zz0 zz0 (zw ?_);refine sR ?_;refine sO ?_;refine zdk s.path.toNat zz0 zz0 (zw ?_);refine sD ?_;exact yy23
        . have hcm:comes c n s=false:=by
           rw [comes,hk,zy155];simp only [not_or] at q;simp [q.1,q.2]
          rw [zy1 g,zic,zy0 (by rw [hcm];decide),znm,zy0 zz75,zbp,zy0 zz75] at hnx;have q1:s.state≠1:=fun h=>q (.inl h)
          have q2:s.state≠3:=fun h=>q (.inr h)
          refine sN ?_;refine sN ?_;exact yy23
      . have hk:here c n s=false:=by rw [here];simp [hh];omega
        have hcm:comes c n s=false:=by rw [comes,hk];rfl
        rw [zy1 g,zic,zy0 (by rw [hcm];decide),znm,zy0 zz75,zbp,zy0 zz75] at hnx;refine zai (by simpa using hh) (zw ?_);refine zaa (c:=((out.map zbr.row).length+1)*200<=140737488355328) om (zw ?_);refine sF ?_;exact ⟨⟨_,hnx⟩,(zcr [(6,some 6),(900,some 900),(901,some 73),(902,some 902)] (by repeat' (first | exact z0 | refine z1 ?_ | refine ⟨?_,?_⟩ | (exact (ziw (f:=zbr.row) rfl).symm) | exact z2))),by simp⟩
    . have hk:here c n s=true:=by rw [here];simp;left;omega
      refine sN ?_;have eA:zad.live (.row 3 1 ((zfw.map fun n=>[pi n]).set s.path.toNat [pi (W (zfw[s.path.toNat]'zz0+((s.chunk.data.map zdu).length:Int)))]))=yqc (zym zfw s.path s.chunk.data.length):=by
       rw [zym,yqc,zy107,zy3 (by omega),zy137,zy2]
      by_cases q:s.state=1\/s.state=3
      . have hcm:comes c n s=true:=by rw [comes,hk,zy155];rcases q with q | q<;>rw [q]<;>rfl
        rw [zy0 g,zic,zy1 hcm,znm,zy1 hcm,zy8] at hnx;have emx:(if s.number>high then s.number else high)=s.number:=by split<;>omega
        by_cases q1:s.state=1
        . refine sT ?_
          exact yy37
        . refine sN ?_
          refine sT ?_;exact yy37
      . have hcm:comes c n s=false:=by
         rw [comes,hk,zy155];simp only [not_or] at q;simp [q.1,q.2]
        rw [zy0 g,zic,zy0 (by rw [hcm];decide),znm,zy0 zz75,zy8] at hnx;have q1:s.state≠1:=fun h=>q (.inl h)
        have q2:s.state≠3:=fun h=>q (.inr h)
        refine sN ?_;refine sN ?_;refine sN ?_;refine sF ?_;exact ⟨⟨_,hnx⟩,(zcr ((6,some 6)::(pJ3 [])) zz28),by simp⟩
end Sco
namespace Snd
open Ser
def zgr (ps:List Path) (part:Int) (moved:Bool) (A:List Int):List Path:=ps.mapIdx fun i p=>if A[i]?.getD 0>0 then Paths.zvz p (A[i]?.getD 0) part moved else p
theorem zyx {ps:List Path} {part:Int} {moved:Bool} {A:List Int}:(zgr ps part moved A)[A.length]?=ps[A.length]?:=by
 rw [zgr,zy48,zy51 (zy22 _)];cases ps[A.length]?<;>simp
theorem zwq {ps:List Path} {part:Int} {moved:Bool} {A:List Int} {n:Int} {p:Path} (hp:ps[A.length]?=some p) :
 zgr ps part moved (A++[n])=(zgr ps part moved A).set A.length (if n>0 then Paths.zvz p n part moved else p):=by
 apply zy71;intro i;rw [zy132,zgr,zgr,zy48,zy48,zy94];have hl:=(zy9.1 hp).1;by_cases hi:A.length=i
 . subst hi
   rw [zy1 rfl,zy1 hl,hp];simp
 . rw [zy0 hi]
   rcases zy82 i A.length with h | h
   . rw [zy35 h]
   . rw [zy51 (l:=A++[n]) (by simp;omega),zy51 (l:=A) h]
theorem yfe {l:List zbr} (h:Sco.zgb l) (cum:Int) (c:Chunk) (paths:Int):Sco.zgb (Sco.zfq l cum c paths).1:=by
 have hf:∀ (p:zbr->Bool) (l:List zbr),Sco.total (l.filter p)<=Sco.total l:=by
  intro p l
  induction l with
  | nil=>exact zy22 _
  | cons x l ih =>
   rw [zy58,Sco.zhl];split
   . rw [Sco.zhl];omega
   . omega
 have hm:∀ (f:zbr->zbr) (l:List zbr),(∀ x,(f x).chunk=x.chunk)->Sco.total (l.map f)=Sco.total l:=by
  intro f l hf;simp only [Sco.total,zy95];congr 1;exact zy86 fun s _=>by simp [hf]
 unfold Sco.zfq;split
 . exact h
 . refine ⟨?_,?_⟩
   . have:=zy66 (fun s:zbr=>decide (s.number>zdf cum c.tag)) l
     have:=h.len;simp only [Sco.left,zy2];omega
   . dsimp only
     rw [hm _ _ (fun x=>by unfold Sco.age;(repeat' split)<;>rfl),Sco.left,hm _ _ (fun x=>by unfold Sco.zbp;split<;>rfl)];exact zy150 (hf _ _) h.bytes
def zgo (s:zab) (c:Chunk) (k:List zbr×Int×List Int×List Int):zab:=zek {s with out:=k.1,cum:=k.2.1,room:=c.room,paths:=zgr s.paths s.config.part (decide (k.2.1>s.cum)) k.2.2.1}
def zhq (part:Int) (t:zab) (lost:List Int):zab:=match lost.getLast? with
 | none=>t
 | some z=>if z>t.recover then {t with paths:=setAt t.paths (choose t) fun p=>Paths.ycw p part,recover:=W (t.next-1)} else t
def zen (moved:Bool) (u:zab):zab:=if moved=true/\(Sco.zdy u.out u.cum).1>u.cum then {u with forward:=true} else u
theorem zkd (s:zab) (c:Chunk):heard s c=settle (zen (decide ((Sco.zfq s.out s.cum c s.paths.length).2.1>s.cum)) (zhq s.config.part (zgo s c (Sco.zfq s.out s.cum c s.paths.length)) (Sco.zfq s.out s.cum c s.paths.length).2.2.2)):=rfl
def upS (t:zab) (part:Int) (w:Path):zab:={t with paths:=t.paths.set (choose t) (Paths.ycw w part),recover:=W (t.next-1)}
theorem Fit.fwd {s:zab} (h:Fit s):Fit {s with forward:=true}:=⟨h.queue,h.had,h.out,h.paths,h.mids,h.fates,h.data⟩
theorem Fit.up {s:zab} (h:Fit s) {part:Int} {w:Path}:Fit (upS s part w):=⟨h.queue,h.had,h.out,by show (s.paths.set _ _).length<_;rw [zy30];exact h.paths,h.mids,h.fates,h.data⟩
theorem ype (s:zab) (c:Chunk) (hs:Fit s) (hr:Sco.ynh s.out s.cum s.paths.length) (hsp:c.zau.length<2 ^ 60) :
 zao Tryz.prog 34 [s.hv,c.hv] zae (xep (zkc s c) 0 1 2 3 4 5) (lk .free (zya (zkc s c) 0 1 2 3 4 5 [])):=by
 have hs':=hs;obtain ⟨h1,h2,h3,h4,h5,h6,h7⟩:=hs;generalize hT:zkc s c=T;refine zan mixed Tryz.func34 zz5 [] (fun _=>.inl rfl) ?_;(conv=>whnf)
 (refine zas [(0,20),(1,21),(2,22),(3,23),(4,24),(5,25)]  ?_;(conv=>whnf);refine dO (zdb s hs') ?_)
 by_cases c1:c.kind=2
 case neg =>
  rw [zkc,zy1 c1] at hT;subst hT;refine zai ?_ ?_
  . simpa using c1
  exact yy29
 case pos =>
  rw [zkc,zy0 (fun h=>h c1)] at hT;refine zag ?_ ?_
  . simpa using c1
  conv=>whnf
  repeat refine sG ?_
  have hk:=Sco.ypk s.out s.cum c ((s.paths.map Path.row).length:Nat) h3 (by rw [zy2];exact hr) hsp;by_cases k1:zdf s.cum c.tag<s.cum\/zdf s.cum c.tag>s.cum+s.out.length
  case pos =>
   rw [zy1 k1] at hT;subst hT;rw [Sco.zfq,zy1 k1] at hk
   (refine zas [(0,31),(1,32),(2,33)]  ?_;(conv=>whnf);refine dO hk ?_)
   (refine cL ?_;refine dL (zjv s.cum c.tag) ?_)
   refine zai ?_ ?_
   . have:zdf s.cum c.tag≠s.cum:=by omega
     simpa using this
   exact yy29
  case neg =>
   rw [zy0 k1,zkd] at hT;have hks:=yfe h3 s.cum c s.paths.length;have hlo:(Sco.zfq s.out s.cum c s.paths.length).2.2.2.length<=s.out.length:=by
    rw [Sco.zfq,zy0 k1];dsimp only;rw [Sco.lost,zy2];refine zy109 (zy66 _ _) ?_;rw [Sco.left,zy2];exact zy66 _ _
   have hK:(Sco.zfq s.out s.cum c ((s.paths.map Path.row).length:Nat)).2.1=zdf s.cum c.tag:=by rw [Sco.zfq,zy0 k1]
   rw [hK] at hk
   (refine zas [(0,31),(1,32),(2,33)]  ?_;(conv=>whnf);refine dO hk ?_)
   (refine cL ?_;refine dL (zjv s.cum c.tag) ?_)
   rw [show (zdf s.cum c.tag != zdf s.cum c.tag)=false from bne_self_eq_false _];(conv=>whnf);refine sD ?_;have hcl:(Sco.zfq s.out s.cum c ((s.paths.map Path.row).length:Nat)).2.2.1.length=s.paths.length:=by
    rw [Sco.zfq,zy0 k1];simp only [Sco.zwp];rw [zy2];rfl
   have hid:s.paths.mapIdx (fun _ p=>p)=s.paths:=by apply List.ext_getElem<;>simp
   have epl:(s.paths.map Path.row).length=s.paths.length:=zy2 _;rw [<- epl] at hT hks hlo;generalize Sco.zfq s.out s.cum c ((s.paths.map Path.row).length:Nat)=K at hcl hK hk hT hks hlo ⊢;rw [hK] at hT;refine ⟨{x:List Int×List Int // K.2.2.1=x.1++x.2},fun | ⟨(A,B),_⟩=>hs 133 [(2,.ptr 2 0),(4,.ptr 4 0),(5,.ptr 5 0),(9,.own 907),(10,zbk (decide (zdf s.cum c.tag>s.cum))),(55,.own 906),(56,i64 s.paths.length),(57,i64 A.length)] ((2,.live (.cells 32 (xbg s (Sch.qs s.queue) (ints s.sched.had) (Sco.zsd s.out) (xhm s.paths) (ints s.mids) (ints s.fates))))::(4,.live (.cells 32 ypz))::(5,.live (.cells 32 (xbg {s with cum:=zdf s.cum c.tag,room:=c.room} (.own 900) (.own 901) (.own 902) (.own 903) (.own 904) (.own 905))))::zya {s with out:=K.1,paths:=zgr s.paths s.config.part (decide (zdf s.cum c.tag>s.cum)) A} 900 901 902 903 904 905 [(906,yov K.2.2.1),(907,yov K.2.2.2)]),fun x=>x.1.2.length,⟨([],K.2.2.1),rfl⟩,?_,?_⟩
   . exact (zcr [(2,some 2),(4,some 4),(5,some 5),(900,some 20),(901,some 21),(902,some 31),(903,some 23),(904,some 24),(905,some 25),(906,some 32),(907,some 33)] (by repeat' (first | exact z0 | refine z1 ?_ | refine ⟨?_,?_⟩ | ((exact zbj (by rw [zy2];omega))) | ((exact zaq (by simp [zgr,hid]))) | exact z2)))
   rintro ⟨⟨A,B⟩,h⟩;dsimp only at h;(conv=>whnf);cases B with
   | cons n B =>
    have hz:=zcf h;obtain ⟨p,hp⟩:∃ p,s.paths[A.length]?=some p:=⟨_,zy3 zz0⟩
    have hpl:A.length<(zgr s.paths s.config.part (decide (zdf s.cum c.tag>s.cum)) A).length:=by rw [zgr,zy94];omega
    refine sT ?_;refine sOm ?_;refine zal (f:=fun n:Int=>[pi n]) h rfl (zw ?_);by_cases d1:n>0
    case pos =>
     rw [show decide (n>0)=true from zy16 d1];(conv=>whnf);refine zaa ⟨by omega,by rw [zy2];exact_mod_cast hpl⟩ (zw ?_);refine zaj (zyx.trans hp) rfl (zw ?_)
     (refine cL ?_;refine dL (Paths.yox p n s.config.part (decide (zdf s.cum c.tag>s.cum))) ?_)
     refine zaa ⟨by omega,by rw [zy2];exact_mod_cast hpl⟩ (zw ?_);refine zaj (zyx.trans hp) rfl (zw ?_);refine sD ?_;refine sF ?_;exact ⟨⟨(A++[n],B),zar h⟩,(zcr ((2,some 2)::((4,some 4)::(5,some 5)::(pJ8 []))) (by repeat' (first | exact z0 | refine z1 ?_ | refine ⟨?_,?_⟩ | ((exact (zes rfl).trans (zaq (by rw [zwq hp,zy1 d1];rfl)))) | exact z2))),by simp⟩
    case neg =>
     rw [show decide (n>0)=false from zy19 d1];(conv=>whnf);refine sF ?_;exact ⟨⟨(A++[n],B),zar h⟩,(zcr ((2,some 2)::((4,some 4)::(5,some 5)::(pJ8 []))) (by repeat' (first | exact z0 | refine z1 ?_ | refine ⟨?_,?_⟩ | ((exact zaq (by rw [zwq hp,zy0 d1,zou (zyx.trans hp)]))) | exact z2))),by simp⟩
   | nil =>
    have hz:=zcw h;rw [zy8] at h;refine sN ?_;have hcp:(zgr s.paths s.config.part (decide (zdf s.cum c.tag>s.cum)) A).length=s.paths.length:=by rw [zgr,zy94]
    (refine zac [] [(1000,5),(1001,900),(1002,901),(1003,902),(1004,903),(1005,904),(1006,905)] [(0,930),(1,931),(2,932),(3,933),(4,934),(5,935)] ?_;(conv=>whnf);refine dG (yaz {s with cum:=zdf s.cum c.tag,room:=c.room,out:=K.1,paths:=zgr s.paths s.config.part (decide (zdf s.cum c.tag>s.cum)) A} hks zz59) ?_)
    rw [show zgo s c K=zek {s with cum:=zdf s.cum c.tag,room:=c.room,out:=K.1,paths:=zgr s.paths s.config.part (decide (zdf s.cum c.tag>s.cum)) A} by rw [zgo,hK,h]] at hT;have hfl:(zek {s with cum:=zdf s.cum c.tag,room:=c.room,out:=K.1,paths:=zgr s.paths s.config.part (decide (zdf s.cum c.tag>s.cum)) A}).paths.length=s.paths.length:=by
     show (List.mapIdx _ _).length=_;rw [zy94];exact hcp
    have hfo:(zek {s with cum:=zdf s.cum c.tag,room:=c.room,out:=K.1,paths:=zgr s.paths s.config.part (decide (zdf s.cum c.tag>s.cum)) A}).out=K.1:=rfl;have hft:Fit (zek {s with cum:=zdf s.cum c.tag,room:=c.room,out:=K.1,paths:=zgr s.paths s.config.part (decide (zdf s.cum c.tag>s.cum)) A}):=⟨h1,h2,hks,by omega,h5,h6,h7⟩
    generalize zek {s with cum:=zdf s.cum c.tag,room:=c.room,out:=K.1,paths:=zgr s.paths s.config.part (decide (zdf s.cum c.tag>s.cum)) A}=t at hT hfl hfo hft ⊢;generalize decide (zdf s.cum c.tag>s.cum)=mv at hT ⊢;have hpl:=hr.p0;obtain ⟨hch,hch2⟩:=zee (s:=t) zz0;obtain ⟨w,hw⟩:∃ w,t.paths[choose t]?=some w:=⟨_,zy3 hch2⟩
    obtain ⟨K1,K2,K3,K4⟩:=K;dsimp only at hT hcl hK hks h hz hfo hlo ⊢;rcases zy135 K4 with rfl | ⟨L,z,rfl⟩
    case inl =>
     rw [show zhq s.config.part t []=t from rfl] at hT;(conv=>whnf);refine sD ?_;exact yy3
    case inr =>
     rw [zy117] at hT ⊢;have hU:zhq s.config.part t (L++[z])=if z>t.recover then upS t s.config.part w else t:=by
      unfold zhq;rw [List.getLast?_concat];dsimp only;rw [upS,setAt,hw]
     rw [hU] at hT;have hll:((L++[z]).map (fun n:Int=>[pi n])).length=L.length+1:=by simp
     have hLl:L.length<2 ^ 38:=by
      have:=hlo;rw [zy117,zy6] at this;simp only [zy5,zy14] at this;have:=h3.len;omega
     rw [show decide (((List.map (fun n:Int=>[pi n]) (L++[z])).length:Int)>0)=true from zy16 (by omega)];(conv=>whnf);refine sFm ?_;refine zaa zz0 (zw ?_);refine zal (f:=fun n:Int=>[pi n]) (a:=L) (b:=[]) (s:=z) rfl zz0 (zw ?_);refine sD ?_;by_cases e0:z>t.recover
     case neg =>
      rw [zy0 e0] at hT;rw [show decide (z>t.recover)=false from zy19 e0];(conv=>whnf)
      repeat refine sG ?_
      exact yy3
     case pos =>
      rw [zy1 e0] at hT;rw [show decide (z>t.recover)=true from zy16 e0];(conv=>whnf);have pc:=Paths.zeg t.paths zz0;rw [hch] at pc
      (refine cL ?_;refine dL pc ?_)
      refine zaa zz15 (zw ?_);refine zaj hw rfl (zw ?_)
      (refine cL ?_;refine dL (Paths.zkp w s.config.part) ?_)
      refine zaa zz15 (zw ?_);refine zaj hw rfl (zw ?_);refine sD ?_;refine sR ?_
      (refine zac [] [(1000,932)] [(0,960)] ?_;(conv=>whnf);refine dG (Sco.zeu t.out t.cum zz86) ?_)
      cases mv with
      | false =>
       rw [show zen false (upS t s.config.part w)=(upS t s.config.part w) from zy0 (fun h=>absurd h.1 (by decide))] at hT;subst hT;(conv=>whnf)
       (refine zac [] [(1000,5),(1001,930),(1002,931),(1003,932),(1004,933),(1005,934),(1006,935)] [(0,980),(1,981),(2,982),(3,983),(4,984),(5,985)] ?_;(conv=>whnf);refine dG (zdm (upS t s.config.part w) ((Fit.up hft))) ?_ ⟨rfl,rfl,rfl,⟨zz1,⟨zz1,⟨zz1,⟨zz1,⟨⟨rfl,_,rfl,.inl ⟨rfl,(zes rfl)⟩⟩,⟨zz1,⟨zz1,trivial⟩⟩⟩⟩⟩⟩⟩,⟨⟨rfl,rfl⟩,⟨⟨rfl,rfl⟩,⟨⟨rfl,rfl⟩,⟨⟨rfl,rfl⟩,⟨⟨rfl,rfl⟩,⟨⟨rfl,rfl⟩,trivial⟩⟩⟩⟩⟩⟩,rfl,rfl,rfl⟩)
       exact yy4
      | true =>
       (conv=>whnf);by_cases e1:(Sco.zdy t.out t.cum).1>t.cum
       case pos =>
        rw [show zen true (upS t s.config.part w)={(upS t s.config.part w) with forward:=true} from zy1 ⟨rfl,e1⟩] at hT;subst hT;rw [show decide ((Sco.zdy t.out t.cum).1>t.cum)=true from zy16 e1];(conv=>whnf)
        (refine zac [] [(1000,5),(1001,930),(1002,931),(1003,932),(1004,933),(1005,934),(1006,935)] [(0,980),(1,981),(2,982),(3,983),(4,984),(5,985)] ?_;(conv=>whnf);refine dG (zdm ({(upS t s.config.part w) with forward:=true}:zab) ((Fit.fwd (Fit.up hft)))) ?_ ⟨rfl,rfl,rfl,⟨zz1,⟨zz1,⟨zz1,⟨zz1,⟨⟨rfl,_,rfl,.inl ⟨rfl,(zes rfl)⟩⟩,⟨zz1,⟨zz1,trivial⟩⟩⟩⟩⟩⟩⟩,⟨⟨rfl,rfl⟩,⟨⟨rfl,rfl⟩,⟨⟨rfl,rfl⟩,⟨⟨rfl,rfl⟩,⟨⟨rfl,rfl⟩,⟨⟨rfl,rfl⟩,trivial⟩⟩⟩⟩⟩⟩,rfl,rfl,rfl⟩)
        exact yy4
       case neg =>
        rw [show zen true (upS t s.config.part w)=(upS t s.config.part w) from zy0 (fun h=>e1 h.2)] at hT;subst hT;rw [show decide ((Sco.zdy t.out t.cum).1>t.cum)=false from zy19 e1];(conv=>whnf)
        (refine zac [] [(1000,5),(1001,930),(1002,931),(1003,932),(1004,933),(1005,934),(1006,935)] [(0,980),(1,981),(2,982),(3,983),(4,984),(5,985)] ?_;(conv=>whnf);refine dG (zdm (upS t s.config.part w) ((Fit.up hft))) ?_ ⟨rfl,rfl,rfl,⟨zz1,⟨zz1,⟨zz1,⟨zz1,⟨⟨rfl,_,rfl,.inl ⟨rfl,(zes rfl)⟩⟩,⟨zz1,⟨zz1,trivial⟩⟩⟩⟩⟩⟩⟩,⟨⟨rfl,rfl⟩,⟨⟨rfl,rfl⟩,⟨⟨rfl,rfl⟩,⟨⟨rfl,rfl⟩,⟨⟨rfl,rfl⟩,⟨⟨rfl,rfl⟩,trivial⟩⟩⟩⟩⟩⟩,rfl,rfl,rfl⟩)
        exact yy4
theorem yva (s:zab) (c:Chunk) (hs:Fit s) (hr:Sco.ynh s.out s.cum s.paths.length) (hsp:c.zau.length<2 ^ 60) :
 zao Tryz.prog 34 [s.hv,c.hv] zae (zkc s c).hv zae:=by
 refine zci Tryz.func34 (ype s c hs hr hsp) ?_;(conv=>whnf)
 rfl
end Snd
namespace Snd
open Ser
structure QI (c:Config) (fates:List Int) (m:zaf):Prop where
 id0:0<=m.id
 id1:m.id<fates.length
 fate:fates[m.id.toNat]?=some 1
 st0:0<=m.message.stream
 st1:m.message.stream<c.streams
 len1:1<=m.message.data.length
 len2:m.message.data.length<=60
 parts:0<=m.parts
 sent:m.sent=m.parts*c.part
 left:m.sent<m.message.data.length
structure XI (np nf:Nat) (x:zbr):Prop where
 path0:0<=x.path
 path1:x.path<np
 id0:0<=x.id
 id1:x.id<nf
 zau:x.chunk.zau=[]
 zbw:x.chunk.zbw=[]
 data:x.chunk.data.length<=16
def zoq (q:List zaf):Int:=(q.map fun m=>61-m.parts).sum
structure SI (N:Nat) (s:zab):Prop where
 cfg:zmw s.config=0
 nums:∀ (i:Nat) x,s.out[i]?=some x->x.number=s.cum+1+i
 next:s.next=s.cum+1+s.out.length
 cum:s.config.first-1<=s.cum
 owes:s.next+zoq s.queue<=s.config.first+61*s.fates.length
 npaths:(s.paths.length:Int)=s.config.paths
 nhad:(s.sched.had.length:Int)=s.config.streams
 nmids:(s.mids.length:Int)=2*s.config.streams
 waits:(s.queue.length:Int)<=s.config.waiting
 queue:∀ m∈s.queue,QI s.config s.fates m
 out:∀ x∈s.out,XI s.paths.length s.fates.length x
 zak:∀ (i:Nat) p,s.paths[i]?=some p->p.zak=Sco.fl i s.out
 many:s.fates.length<=N
 few:N<=2 ^ 20
theorem zcn {c:Config} (h:zmw c=0):1<=c.streams/\c.streams<=4/\1<=c.paths/\c.paths<=2/\1<=c.part/\c.part<=16/\40<=c.packet/\c.packet<=120/\1<=c.waiting/\c.waiting<=12/\0<=c.first/\c.first<65536/\1<=(c).turns/\(c).turns<=5:=by
 unfold zmw at h;split at h
 . cases h
 . split at h
   . cases h
   . omega
theorem QI.few {c:Config} {fates:List Int} {m:zaf} (h:QI c fates m) (hp:1<=c.part):m.parts<=59:=by
 have h1:=h.sent;have h2:=h.left;have h3:=h.len2;have h4:=h.parts;have h5:m.parts*1<=m.parts*c.part:=Int.mul_le_mul_of_nonneg_left hp h4;omega
theorem yag {c:Config} {fates:List Int} (hp:1<=c.part):∀ {q:List zaf},(∀ m∈q,QI c fates m)->0<=zoq q
 | [],_=>by simp [zoq]
 | m::q,h=>by
  have h1:=(h m zz4).few hp;have h2:=yag hp (q:=q) fun x hx=>h x zz38
  simp only [zoq,zy24,zy100] at h2 ⊢;omega
theorem zlr (m:zaf) (q:List zaf):zoq (m::q)=61-m.parts+zoq q:=by simp [zoq]
theorem zmh (a b:List zaf):zoq (a++b)=zoq a+zoq b:=by simp [zoq]
section
variable {N:Nat} {s:zab}
theorem SI.len (h:SI N s):(s.out.length:Int)<=61*N:=by
 have h1:=h.next;have h2:=h.cum;have h3:=h.owes;have h4:=yag (by have:=zcn h.cfg;omega) h.queue;have h5:=h.many;omega
theorem SI.nextle (h:SI N s):s.next<=65536+61*N:=by
 have h3:=h.owes;have h4:=yag (by have:=zcn h.cfg;omega) h.queue;have h5:=h.many;have h6:=zcn h.cfg;omega
theorem ynd:∀ {l:List zbr},(∀ x∈l,x.chunk.data.length<=16)->Sco.total l<=16*l.length
 | [],_=>by simp [Sco.total]
 | x::l,h=>by
  have h1:=h x zz4;have h2:=ynd (l:=l) fun y hy=>h y zz47
  rw [Sco.zhl,zy5];omega
theorem SI.total (h:SI N s):(Sco.total s.out:Int)<=16*(61*N):=by
 have h1:=ynd fun x hx=>(h.out x hx).data
 have h2:=h.len;omega
theorem SI.fit (h:SI N s):Fit s:=by
 have h1:=h.len;have h2:=h.few;have h3:=h.total;have h4:=zcn h.cfg;have h5:=h.npaths;have h6:=h.nhad;have h7:=h.nmids;have h8:=h.waits;have h9:=h.many;exact ⟨by omega,by omega,⟨by omega,by omega⟩,by omega,by omega,by omega,fun m hm=>by have:=(h.queue m hm).len2;omega⟩
theorem SI.right (h:SI N s):Sco.ynh s.out s.cum s.paths.length:=by
 have h1:=h.npaths;have h2:=zcn h.cfg;have h3:=h.nextle;have h4:=h.next;have h5:=h.cum;have h6:=h.few;exact ⟨fun x hx=>⟨(h.out x hx).path0,(h.out x hx).path1⟩,by omega,by omega,by omega,by omega,h.nums⟩
theorem SI.pf (h:SI N s):PF 62 s:=by
 have h1:=h.len;have h2:=h.few;have h3:=h.total;have h4:=zcn h.cfg;have h5:=h.npaths;have h6:=h.nhad;have h7:=h.nmids;have h8:=h.waits;have h9:=h.many;refine ⟨⟨h.fit,by omega,fun m hm=>⟨(h.queue m hm).id0,(h.queue m hm).id1⟩,fun x hx=>⟨(h.out x hx).id0,(h.out x hx).id1⟩⟩,by omega,by omega,by omega,fun m hm=>?_,fun x hx=>?_,by omega,by omega⟩
 . have q:=h.queue m hm
   have q1:=q.st0;have q2:=q.st1;have q3:=q.len2;have q4:=q.sent;have q5:=q.parts;have q6:0<=m.parts*s.config.part:=Int.mul_nonneg q5 zz0;refine ⟨⟨q1,by omega,by omega,by omega,fun _=>?_⟩,by omega,by omega,q.left,by omega⟩;unfold zif;split<;>omega
 . have q:=h.out x hx
   exact ⟨by rw [q.zau];decide,by rw [q.zbw];decide⟩
theorem SI.mono {M:Nat} (h:SI N s) (h1:N<=M) (h2:M<=2 ^ 20):SI M s:=⟨h.cfg,h.nums,h.next,h.cum,h.owes,h.npaths,h.nhad,h.nmids,h.waits,h.queue,h.out,h.zak,zy109 h.many h1,h2⟩
end
theorem xau {c:Config} (h:zmw c=0):SI 0 (yok c):=by
 obtain ⟨h1,h2,h3,h4,h5,h6,h7,h8,h9,h10,h11,h12,h13,h14⟩:=zcn h;refine ⟨h,fun i x hx=>?_,?_,?_,?_,?_,?_,?_,?_,fun m hm=>?_,fun x hx=>?_,fun i p hp=>?_,?_,by decide⟩
 . simp [yok] at hx
 . simp [yok]
 . show c.first-1<=c.first-1;omega
 . show c.first+zoq []<=c.first+61*(([]:List Int).length:Int);simp [zoq]
 . show ((List.replicate c.paths.toNat (Paths.new c.part)).length:Int)=c.paths;simp;omega
 . show ((Sch.new c.streams).had.length:Int)=c.streams
   simp [Sch.new];omega
 . show ((List.replicate (2*c.streams).toNat (0:Int)).length:Int)=2*c.streams;simp;omega
 . show (([]:List zaf).length:Int)<=c.waiting;simp;omega
 . simp [yok] at hm
 . simp [yok] at hx
 . have hp:(List.replicate c.paths.toNat (Paths.new c.part))[i]?=some p:=hp
   rw [zy67] at hp;split at hp
   . cases hp;simp [Paths.new,Sco.fl,yok]
   . cases hp
 . show ([]:List Int).length<=0;simp
theorem QI.more {c:Config} {fates:List Int} {m:zaf} (h:QI c fates m) (f:Int):QI c (fates++[f]) m :=
 ⟨h.id0,by have:=h.id1;simp;omega,by have:=h.id0;have:=h.id1;rw [zy35 (by omega)];exact h.fate,h.st0,h.st1,h.len1,h.len2,h.parts,h.sent,h.left⟩
theorem XI.more {np nf nf':Nat} {x:zbr} (h:XI np nf x) (hn:nf<=nf'):XI np nf' x:=⟨h.path0,h.path1,h.id0,by have:=h.id1;omega,h.zau,h.zbw,h.data⟩
theorem yas {N:Nat} {s:zab} {m:Message} (h:SI N s) (he:zey s m=0) (hN:N+1<=2 ^ 20):SI (N+1) (zii s m):=by
 unfold zey at he;split at he
 . cases he
 split at he
 . cases he
 split at he
 . cases he
 rename_i c1 c2 c3;refine ⟨h.cfg,h.nums,h.next,h.cum,?_,h.npaths,h.nhad,h.nmids,?_,fun q hq=>?_,fun x hx=>(h.out x hx).more (by simp [zii]),h.zak,?_,hN⟩
 . have h1:=h.owes
   show s.next+zoq (s.queue++[⟨s.fates.length,-1,s.clock,0,0,m⟩])<=s.config.first+61*((s.fates++[1]).length:Int);rw [zmh,zlr];simp only [zoq,zy80,zy149,zy6,zy5,zy14] at h1 ⊢;push_cast;omega
 . show ((s.queue++[_]).length:Int)<=s.config.waiting
   simp;omega
 . rcases zy17.1 hq with hq | hq
   . exact (h.queue q hq).more 1
   . rw [zy23] at hq;subst hq
     exact ⟨by simp,by simp [zii];omega,by simp [zii],by dsimp only;omega,by show m.stream<s.config.streams;omega,by dsimp only;omega,by dsimp only;omega,by simp,by simp,by dsimp only;omega⟩
 . have:=h.many
   show (s.fates++[1]).length<=N+1;simp;omega
theorem yqs (id:Int) (s:zab) (m:zaf) (hm:m.parts<=60):W (s.next+1)=s.next+1->(zfc id s m).next+zoq ([m].filter fun m=>decide (m.id≠id))<=s.next+zoq [m]:=by
 intro hW;unfold zfc;by_cases c:m.id=id
 . have e1:[m].filter (fun m=>decide (m.id≠id))=[]:=by simp [c]
   rw [e1];split
   . show W (s.next+1)+zoq []<=_
     simp only [zoq,zy80,zy149,zy24,zy100];omega
   . simp only [zoq,zy80,zy149,zy24,zy100];omega
 . rw [zy0 (fun h=>c h.1)]
   simp [c,zoq]
theorem ykd (id:Int):∀ (q:List zaf) (s:zab),(∀ m∈q,m.parts<=60)->-1000<=s.next->s.next+q.length<2 ^ 60->s.next=s.cum+1+s.out.length->(∀ (i:Nat) x,s.out[i]?=some x->x.number=s.cum+1+i) ->
 (q.foldl (zfc id) s).next=s.cum+1+(q.foldl (zfc id) s).out.length/\(∀ (i:Nat) x,(q.foldl (zfc id) s).out[i]?=some x->x.number=s.cum+1+i)/\(q.foldl (zfc id) s).next+zoq (q.filter fun m=>decide (m.id≠id))<=s.next+zoq q
 | [],s,_,_,_,h1,h2=>⟨h1,h2,zy99 _⟩
 | m::q,s,hq,h0,hb,h1,h2=>by
  have hW:W (s.next+1)=s.next+1:=by simp only [zy5] at hb;exact zbh zz0 zz0
  have hk:=zwv id s m;have hcum:(zfc id s m).cum=s.cum:=by rw [hk]
  have ho:=yqs id s m (hq m zz4) hW;have h1':(zfc id s m).next=(zfc id s m).cum+1+(zfc id s m).out.length/\s.next<=(zfc id s m).next/\(zfc id s m).next<=s.next+1:=by
   unfold zfc;split
   . dsimp only;rw [hW];simp;omega
   . exact ⟨h1,by omega,by omega⟩
  have h2':∀ (i:Nat) x,(zfc id s m).out[i]?=some x->x.number=(zfc id s m).cum+1+i:=by
   rw [hcum];unfold zfc;split
   . intro i x hx
     have hx:(s.out++[zry s.next m])[i]?=some x:=hx;rcases zy82 i s.out.length with hi | hi
     . rw [zy35 hi] at hx;exact h2 i x hx
     . rw [zy50 hi] at hx
       have:i-s.out.length=0:=by
        rcases zy115 (i-s.out.length) with h | h
        . exact h
        . rw [zy51 (by simp;omega)] at hx;cases hx
       rw [this] at hx;cases hx;show s.next=_;omega
   . exact h2
  obtain ⟨r1,r2,r3⟩:=ykd id q (zfc id s m) (fun x hx=>hq x zz38) zz0 (by simp only [zy5] at hb;push_cast at hb;omega) h1'.1 h2';rw [zy39];rw [hcum] at r1 r2;refine ⟨r1,r2,?_⟩;have e1:(m::q).filter (fun m=>decide (m.id≠id))=[m].filter (fun m=>decide (m.id≠id))++q.filter fun m=>decide (m.id≠id):=by rw [<- zy53];rfl
  rw [e1,zmh,zlr];simp only [zoq,zy24,zy80,zy100,zy149] at ho r3 ⊢;omega
theorem yqv {np nf:Nat} (id:Int) (hnp:0<np) (hid:0<=id/\id<nf):∀ (q:List zaf) (s:zab),(∀ x∈s.out,XI np nf x)->∀ x∈(q.foldl (zfc id) s).out,XI np nf x
 | [],s,h,x,hx=>h x hx
 | m::q,s,h,x,hx=>by
  refine yqv id hnp hid q (zfc id s m) (fun y hy=>?_) x hx;unfold zfc at hy;split at hy
  . rename_i c
    rcases zy17.1 hy with hy | hy
    . exact h y hy
    . rw [zy23] at hy;subst hy
      exact ⟨zy99 _,by show (0:Int)<np;omega,by show 0<=m.id;omega,by show m.id<nf;omega,rfl,rfl,by simp [zry]⟩
  . exact h y hy
theorem zwy {s:zab} {i:Nat} {p:Path} (h:(zek s).paths[i]?=some p):p.zak=Sco.fl i s.out:=by
 have h:(s.paths.mapIdx fun i p=>flP s.out i p)[i]?=some p:=h;rw [zy48] at h;cases hp:s.paths[i]? with
 | none=>rw [hp] at h;cases h
 | some q=>rw [hp] at h;cases h;rfl
theorem zzl (s:zab) (id:Nat):(zfn s id).out=(s.queue.foldl (zfc id) {s with fates:=s.fates.set id 3}).out.map (Sco.zie id):=rfl
theorem ycu (s:zab) (id:Nat):(zfn s id).next=(s.queue.foldl (zfc id) {s with fates:=s.fates.set id 3}).next:=rfl
theorem zpy (s:zab) (id:Nat):(zfn s id).queue=s.queue.filter fun m=>decide (m.id≠(id:Int)):=rfl
theorem zpx (s:zab) (id:Nat):(zfn s id).fates=s.fates.set id 3:=by
 show (s.queue.foldl (zfc id) {s with fates:=s.fates.set id 3}).fates=_;rw [zpr]
theorem yhk {s:zab} {id:Nat} {i:Nat} {p:Path} (h:(zfn s id).paths[i]?=some p):p.zak=Sco.fl i (zfn s id).out:=by
 unfold zfn at h ⊢;dsimp only at h ⊢;have:=zwy h;exact this
theorem yrl {N:Nat} {s:zab} (h:SI N s) {id:Nat} (hid:id<s.fates.length):SI N (zfn s id):=by
 obtain ⟨r,-,-,-⟩:=zjl s id;have hw:=zcn h.cfg;have hl:=h.nextle;have hw2:=h.waits;have hf:=h.few;have hc:=h.cum;have hn:=h.next;obtain ⟨e1,e2,e3⟩:=ykd id s.queue {s with fates:=s.fates.set id 3} (fun m hm=>by have:=(h.queue m hm).few zz0;omega) zz59 zz59 h.next h.nums;refine ⟨by rw [r.config];exact h.cfg,fun i x hx=>?_,?_,by rw [r.config,r.cum];exact h.cum,?_,by rw [r.paths,r.config];exact h.npaths,by rw [r.had,r.config];exact h.nhad,by rw [r.mids,r.config];exact h.nmids,?_,fun m hm=>?_,fun x hx=>?_,fun i p hp=>?_,by rw [r.fates];exact h.many,h.few⟩
 . rw [zzl,zy10] at hx
   cases hy:(s.queue.foldl (zfc id) {s with fates:=s.fates.set id 3}).out[i]? with
   | none=>rw [hy] at hx;cases hx
   | some y =>
    rw [hy] at hx;cases hx;rw [r.cum,show (Sco.zie id y).number=y.number by unfold Sco.zie;split<;>rfl];exact e2 i y hy
 . rw [ycu,zzl,r.cum,zy2];exact e1
 . rw [ycu,zpy,r.config,r.fates]
   have:=h.owes;dsimp only at e3;omega
 . rw [zpy,r.config]
   have:=zy66 (fun m:zaf=>decide (m.id≠(id:Int))) s.queue;omega
 . rw [zpy] at hm
   obtain ⟨hm1,hm2⟩:=zy91.1 hm;have hm2:m.id≠id:=zy43 hm2;have q:=h.queue m hm1;have q0:=q.id0;rw [r.config,zpx];exact ⟨q.id0,by rw [zy30];exact q.id1,by rw [zy45 (by omega)];exact q.fate,q.st0,q.st1,q.len1,q.len2,q.parts,q.sent,q.left⟩
 . rw [zzl] at hx
   obtain ⟨y,hy,rfl⟩:=zy28.1 hx;have hp:=h.npaths;have:=yqv (np:=s.paths.length) (nf:=s.fates.length) id zz0 ⟨by omega,by omega⟩ s.queue {s with fates:=s.fates.set id 3} h.out y hy;rw [r.paths,r.fates];unfold Sco.zie;split
   . exact ⟨this.path0,this.path1,this.id0,this.id1,this.zau,this.zbw,this.data⟩
   . exact this
 . exact yhk hp
theorem xcn {N:Nat} {s:zab} (h:SI N s) {m:zaf} (hm:0<=m.id/\m.id<s.fates.length):SI N (zkx s m)/\(zkx s m).fates.length=s.fates.length:=by
 unfold zkx;exact yy81
theorem xcq {N:Nat} {s:zab} (h:SI N s) {m:zbr} (hm:0<=m.id/\m.id<s.fates.length):SI N (zid s m)/\(zid s m).fates.length=s.fates.length:=by
 unfold zid;exact yy81
theorem zzd {N:Nat}:∀ (q:List zaf) (s:zab),SI N s->(∀ m∈q,0<=m.id/\m.id<s.fates.length)->SI N (q.foldl zkx s)/\(q.foldl zkx s).fates.length=s.fates.length
 | [],s,h,_=>⟨h,rfl⟩
 | m::q,s,h,hq=>by
  obtain ⟨a,b⟩:=xcn h (hq m zz4);obtain ⟨c,d⟩:=zzd q (zkx s m) a fun x hx=>by rw [b];exact hq x zz38
  exact ⟨c,d.trans b⟩
theorem ykl {N:Nat}:∀ (q:List zbr) (s:zab),SI N s->(∀ m∈q,0<=m.id/\m.id<s.fates.length)->SI N (q.foldl zid s)/\(q.foldl zid s).fates.length=s.fates.length
 | [],s,h,_=>⟨h,rfl⟩
 | m::q,s,h,hq=>by
  obtain ⟨a,b⟩:=xcq h (hq m zz4);obtain ⟨c,d⟩:=ykl q (zid s m) a fun x hx=>by rw [b];exact hq x zz38
  exact ⟨c,d.trans b⟩
theorem ztw {N:Nat} {s:zab} (h:SI N s):SI N (expire s)/\(expire s).fates.length=s.fates.length:=by
 obtain ⟨a,b⟩:=zzd s.queue s h fun m hm=>⟨(h.queue m hm).id0,(h.queue m hm).id1⟩
 obtain ⟨c,d⟩:=ykl (s.queue.foldl zkx s).out _ a fun x hx=>⟨(a.out x hx).id0,(a.out x hx).id1⟩
 exact ⟨c,d.trans b⟩
end Snd
namespace Snd
open Ser
theorem zgi {α:Type} (l:List α) (k:Nat) (f:α->α):(setAt l k f).length=l.length:=by
 unfold setAt;split<;>simp
theorem zva {α:Type} {l:List α} {k:Nat} {f:α->α} {i:Nat} {y:α} (h:(setAt l k f)[i]?=some y):(i≠k/\l[i]?=some y)\/(i=k/\∃ x,l[k]?=some x/\y=f x):=by
 unfold setAt at h;split at h
 . rename_i hn
   by_cases e:i=k
   . subst e;rw [hn] at h;cases h
   . exact .inl ⟨e,h⟩
 . rename_i x hx
   by_cases e:i=k
   . subst e
     have hk:=(zy9.1 hx).1;rw [zy27 hk] at h;cases h;exact .inr ⟨rfl,x,hx,rfl⟩
   . rw [zy45 (fun h=>e h.symm)] at h;exact .inl ⟨e,h⟩
theorem zpt (p:Int) (x:zbr) (l:List zbr):Sco.fl p (x::l)=Sco.fl p [x]+Sco.fl p l:=by
 rw [show x::l=[x]++l from rfl,Sco.yrc]
theorem xaj (p:Int):∀ {l:List zbr} {i:Nat} {x:zbr},l[i]?=some x->∀ y,Sco.fl p (l.set i y)+Sco.fl p [x]=Sco.fl p l+Sco.fl p [y]
 | [],i,x,h,y=>by simp at h
 | z::l,0,x,h,y=>by
  simp only [List.getElem?_cons_zero,Option.some.injEq] at h;subst h;rw [zy127,zpt,zpt p z l];omega
 | z::l,i+1,x,h,y=>by
  simp only [zy87] at h;have:=xaj p h y;rw [zy114,zpt,zpt p z l];omega
section
variable {N:Nat} {s:zab}
theorem SI.side (h:SI N s) {ps:List Path} {k:Int} {r:Int} {f:Bool} {z:Int} (hl:ps.length=s.paths.length) (hf:∀ (i:Nat) p,ps[i]?=some p->p.zak=Sco.fl i s.out) :
 SI N {s with paths:=ps,clock:=k,room:=r,forward:=f,recover:=z} :=
 ⟨h.cfg,h.nums,h.next,h.cum,h.owes,by show (ps.length:Int)=_;rw [hl];exact h.npaths,h.nhad,h.nmids,h.waits,h.queue,fun x hx=>by show XI ps.length _ x;rw [hl];exact h.out x hx,hf,h.many,h.few⟩
theorem choose_lt' (h:SI N s):choose s<s.paths.length:=(zee h.pf.some).2
theorem zpv {o:List (List Chunk)} (h:SI N s):SI N (forward ⟨s,o⟩).s:=by
 unfold forward;split
 . exact h
 . refine h.side (zgi _ _ _) fun i p hp=>?_
   rcases zva hp with ⟨-,hp⟩ | ⟨rfl,q,hq,rfl⟩
   . exact h.zak i p hp
   . rw [<- h.zak _ q hq]
     unfold zcj;split<;>rfl
theorem yrf {p:zgj} (h:SI N p.s) {i path:Nat} {x:zbr} (hx:p.s.out[i]?=some x) (hst:x.state≠1) (hp:path<p.s.paths.length):SI N (fly p i path).s:=by
 obtain ⟨s,o⟩:=p;dsimp only at h hx hp;have hxm:=zy12 hx;have hxi:=h.out x hxm;have hil:=(zy9.1 hx).1;have hw:=zcn h.cfg;have hnp:=h.npaths;have htot:=h.total;have hfew:=h.few;have h0:∀ q:Int,Sco.fl q [x]=0:=fun q=>by rw [Sco.zww,zy0 (fun h=>hst h.1)]
 unfold fly;simp only [hx];refine ⟨h.cfg,fun j y hy=>?_,?_,h.cum,h.owes,?_,h.nhad,h.nmids,h.waits,h.queue,fun y hy=>?_,fun j q hq=>?_,h.many,h.few⟩
 . have hy:(s.out.set i (zvx x path))[j]?=some y:=hy
   by_cases e:i=j
   . subst e
     rw [zy27 hil] at hy;cases hy;exact h.nums i x hx
   . rw [zy45 e] at hy;exact h.nums j y hy
 . show s.next=s.cum+1+((s.out.set i _).length:Int)
   rw [zy30];exact h.next
 . show ((setAt s.paths path _).length:Int)=_
   rw [zgi];exact h.npaths
 . have hy:y∈s.out.set i (zvx x path):=hy
   show XI (setAt s.paths path _).length _ y;rw [zgi];rcases zy56 hy with hy | rfl
   . exact h.out y hy
   . exact ⟨by show (0:Int)<=path;omega,by show (path:Int)<s.paths.length;omega,hxi.id0,hxi.id1,hxi.zau,hxi.zbw,hxi.data⟩
 . show q.zak=(Sco.fl j (s.out.set i (zvx x path)):Nat)
   have e1:=xaj (j:Int) hx (zvx x path);rw [h0] at e1;have e2:Sco.fl (j:Int) [zvx x path]=if path=j then x.chunk.data.length else 0:=by
    rw [Sco.zww];by_cases e:path=j
    . rw [zy1 e,zy1 ⟨rfl,by show (path:Int)=j;omega⟩];rfl
    . rw [zy0 e,zy0 (by rintro ⟨-,h⟩;have h:(path:Int)=j:=h;omega)]
   rcases zva hq with ⟨ne,hq⟩ | ⟨rfl,w,hw2,rfl⟩
   . rw [h.zak j q hq]
     rw [zy0 (fun h=>ne h.symm)] at e2;omega
   . rw [zy1 rfl] at e2
     have e3:=h.zak j w hw2;have e4:=Sco.xcv (j:Int) s.out;have e5:=hxi.data;show W (w.zak+x.chunk.data.length)=_;rw [e3,zbh (by omega) (by omega)];omega
theorem yqj {p:zgj} (h:SI N p.s) {path:Nat} (hp:path<p.s.paths.length) (i:Nat):SI N (zdn path p i).s/\(zdn path p i).s.paths.length=p.s.paths.length:=by
 unfold zdn;split
 . exact ⟨h,rfl⟩
 . rename_i x hx
   split
   . rename_i c
     refine ⟨yrf h hx (by rw [c.1];decide) hp,?_⟩;unfold fly;simp only [hx];exact zgi _ _ _
   . exact ⟨h,rfl⟩
theorem ybv {path:Nat}:∀ (L:List Nat) {p:zgj},SI N p.s->path<p.s.paths.length->SI N (L.foldl (zdn path) p).s
 | [],_,h,_=>h
 | i::L,p,h,hp=>by
  obtain ⟨a,b⟩:=yqj h hp i;exact ybv L a (by rw [b];exact hp)
theorem zyo {p:zgj} (h:SI N p.s):SI N (again p).s:=ybv _ h (choose_lt' h)
theorem yyt {q:List zaf} {k:Nat} {m y:zaf} (h:q[k]?=some m):zoq (q.set k y)=zoq q+m.parts-y.parts:=by
 obtain ⟨a,b,rfl,rfl⟩:∃ a b,q=a++m::b/\a.length=k:=⟨q.take k,q.drop (k+1),by
  have hk:=(zy9.1 h)
  obtain ⟨hk,e⟩:=hk;rw [<- e,zy113,zy25],by have:=(zy9.1 h).1;simp;omega⟩
 rw [zy162 _ _ (zy22 _),zy98,zy127,zmh,zmh,zlr,zlr];omega
theorem yoq {q:List zaf} {k:Nat} {m:zaf} (h:q[k]?=some m):zoq (q.eraseIdx k)=zoq q+m.parts-61:=by
 obtain ⟨a,b,rfl,rfl⟩:∃ a b,q=a++m::b/\a.length=k:=⟨q.take k,q.drop (k+1),by
  have hk:=(zy9.1 h)
  obtain ⟨hk,e⟩:=hk;rw [<- e,zy113,zy25],by have:=(zy9.1 h).1;simp;omega⟩
 rw [List.eraseIdx_append_of_length_le (zy22 _),zy98,List.eraseIdx_cons_zero,zmh,zmh,zlr];omega
theorem yoj (s:zab) (m:zaf):(zdp s m).length=s.mids.length:=by
 unfold zdp;split
 . exact zgi _ _ _
 . rfl
theorem yro (sc:ziy) (m:zaf) (n:Int) (o:Bool):(Sch.had sc m n o).had.length=sc.had.length:=by
 unfold Sch.had;dsimp only;split<;>simp
def zwt (s:zab) (k:Nat) (m:zaf):zab :=
 {s with mids:=zdp s m,sched:=Sch.had s.sched {m with mid:=zcd s m} (many s m) (decide (m.sent+many s m=m.message.data.length)),out:=s.out++[⟨s.next,m.id,0,0,0,0,m.came,m.message.life,m.message.tries,cut s m (many s m)⟩],next:=W (s.next+1),queue:=if decide (m.sent+many s m=m.message.data.length) then s.queue.eraseIdx k else s.queue.set k {m with mid:=zcd s m,sent:=m.sent+many s m,parts:=W (m.parts+1)}}
theorem zlq (s:zab) (o:List (List Chunk)) (k:Nat) (m:zaf):yih ⟨s,o⟩ k m (many s m)=fly ⟨zwt s k m,o⟩ s.out.length (choose s):=rfl
theorem xft (h:SI N s) {k:Nat} {m:zaf} (hm:s.queue[k]?=some m):SI N (zwt s k m):=by
 have hw:=zcn h.cfg;have q:=h.queue m (zy12 hm);have hfew:=q.few zz0;have hN:=h.few;have hnl:=h.nextle;have hcum:=h.cum;have hnx:=h.next;have hp:=h.npaths;have q1:=q.parts;have q2:=q.sent;have q3:=q.left;have q4:=q.len2;have q5:0<=m.parts*s.config.part:=Int.mul_nonneg q1 zz0;obtain ⟨n1,n2,n3⟩:=zuj (s:=s) (m:=m) zz0 zz0 zz0 q3 zz0;have n4:many s m<=s.config.part:=by unfold many;split<;>omega
 have hW:W (s.next+1)=s.next+1:=zbh zz0 zz0;have hWp:W (m.parts+1)=m.parts+1:=zbh zz0 zz0;refine ⟨h.cfg,fun j y hy=>?_,?_,h.cum,?_,h.npaths,?_,?_,?_,fun y hy=>?_,fun y hy=>?_,fun j p hp=>?_,h.many,h.few⟩
 . have hy:(s.out++[_])[j]?=some y:=hy
   rcases zy82 j s.out.length with hj | hj
   . rw [zy35 hj] at hy;exact h.nums j y hy
   . rw [zy50 hj] at hy
     have e:j-s.out.length=0:=by
      rcases zy115 (j-s.out.length) with h | h
      . exact h
      . rw [zy51 (by simp;omega)] at hy;cases hy
     rw [e] at hy;cases hy;show s.next=s.cum+1+j;omega
 . show W (s.next+1)=s.cum+1+((s.out++[_]).length:Int)
   rw [hW,zy6,zy57];push_cast;omega
 . have:=h.owes
   show W (s.next+1)+zoq (if decide (m.sent+many s m=m.message.data.length) then s.queue.eraseIdx k else s.queue.set k {m with mid:=zcd s m,sent:=m.sent+many s m,parts:=W (m.parts+1)})<=s.config.first+61*(s.fates.length:Int);rw [hW];split
   . rw [yoq hm];omega
   . rw [yyt hm];dsimp only;rw [hWp];omega
 . show ((Sch.had s.sched _ _ _).had.length:Int)=_
   rw [yro];exact h.nhad
 . show ((zdp s m).length:Int)=_
   rw [yoj];exact h.nmids
 . show ((if decide (m.sent+many s m=m.message.data.length) then s.queue.eraseIdx k else s.queue.set k {m with mid:=zcd s m,sent:=m.sent+many s m,parts:=W (m.parts+1)}).length:Int)<=s.config.waiting
   have:=h.waits;split
   . rw [zy106];split<;>omega
   . rw [zy30];exact this
 . have hy:y∈(if decide (m.sent+many s m=m.message.data.length) then s.queue.eraseIdx k else s.queue.set k {m with mid:=zcd s m,sent:=m.sent+many s m,parts:=W (m.parts+1)}):=hy
   show QI s.config s.fates y;split at hy
   . exact h.queue y (zy73 hy)
   . rename_i c
     have c:m.sent+many s m≠m.message.data.length:=by simpa using c
     rcases zy56 hy with hy | rfl
     . exact h.queue y hy
     . have e:many s m=s.config.part:=by
        unfold many at c ⊢;split at c
        . omega
        . rename_i c2;rw [zy0 c2]
       refine ⟨q.id0,q.id1,q.fate,q.st0,q.st1,q.len1,q.len2,?_,?_,?_⟩
       . show 0<=W (m.parts+1);omega
       . show m.sent+many s m=W (m.parts+1)*s.config.part
         rw [hWp,e,q2,Int.add_mul,Int.one_mul]
       . show m.sent+many s m<m.message.data.length;omega
 . have hy:y∈s.out++[_]:=hy
   rcases zy17.1 hy with hy | hy
   . exact h.out y hy
   . rw [zy23] at hy;subst hy
     refine ⟨zy99 _,by show (0:Int)<s.paths.length;omega,q.id0,q.id1,rfl,rfl,?_⟩;show ((m.message.data.drop m.sent.toNat).take (many s m).toNat).length<=16;rw [zy52];omega
 . show p.zak=(Sco.fl j (s.out++[_]):Nat)
   rw [Sco.yrc,h.zak j p hp,Sco.zww,zy0 (by rintro ⟨h,-⟩;cases h)];rfl
theorem yij {p q:zgj} (h:SI N p.s) (hq:next p=some q):SI N q.s:=by
 obtain ⟨s,o⟩:=p;unfold next at hq;dsimp only at hq h;split at hq
 . cases hq
 rename_i c;cases hm:s.queue[(zdi s).toNat]? with
 | none=>rw [hm] at hq;cases hq
 | some m =>
  rw [hm] at hq;dsimp only at hq;split at hq
  . cases hq
  . cases hq
    rw [zlq];have h2:=xft h hm;exact yrf (p:=⟨zwt s (zdi s).toNat m,o⟩) h2 (x:=⟨s.next,m.id,0,0,0,0,m.came,m.message.life,m.message.tries,cut s m (many s m)⟩) (by show (s.out++[_])[s.out.length]?=_;simp) (by intro h;cases h) (choose_lt' h)
theorem ylx:∀ (n:Nat) {p:zgj},SI N p.s->SI N (zgl n p).s
 | 0,_,h=>h
 | n+1,p,h=>by
  unfold zgl;split
  . exact h
  . rename_i q hq;exact ylx n (yij h hq)
theorem yzx (h:SI N s):SI N (ygk s):=by
 refine h.side zz4 fun i p hp=>?_
 rw [zy10] at hp;cases hq:s.paths[i]? with
 | none=>rw [hq] at hp;cases hp
 | some q =>
  rw [hq] at hp;cases hp;rw [<- h.zak i q hq];unfold zfz;split
  . rfl
  . split<;>rfl
theorem yub (h:SI N s):SI N (zfl s).1:=yzx (ylx 61 (zyo (zpv (ztw h).1)))
theorem zni {n:Int}:∀ {l:List zbr} {cum:Int},(∀ (i:Nat) x,l[i]?=some x->x.number=cum+1+i)->cum<=n->l.filter (fun x=>decide (x.number>n))=l.drop (n-cum).toNat
 | [],_,_,_=>by simp
 | x::l,cum,h,hn=>by
  have h0:=h 0 x rfl;have h1:∀ (i:Nat) y,l[i]?=some y->y.number=cum+1+1+i:=fun i y hy=>by
   have:=h (i+1) y (by rw [zy87];exact hy);push_cast at this;omega
  by_cases c:cum=n
  . subst c
    have:∀ y∈x::l,y.number>cum:=fun y hy=>by
     obtain ⟨i,hi⟩:=zy61 hy;have:=h i y hi;omega
    rw [zy84.2 fun y hy=>zy16 (this y hy)];simp
  . rw [zy58,zy0 (by simp at h0 ⊢;omega),zni h1 (by omega)]
    have:(n-cum).toNat=(n-(cum+1)).toNat+1:=by omega
    rw [this,zy141]
theorem xel {l:List zbr} {cum:Int} {c:Chunk} {np:Int} (h:∀ (i:Nat) x,l[i]?=some x->x.number=cum+1+i) (hk:¬ (zdf cum c.tag<cum\/zdf cum c.tag>cum+l.length)) :
 ∃ g:zbr->zbr,(∀ x,(g x).number=x.number/\(g x).path=x.path/\(g x).id=x.id/\(g x).chunk=x.chunk)/\(Sco.zfq l cum c np).1=(l.drop (zdf cum c.tag-cum).toNat).map g:=by
 refine ⟨fun x=>Sco.age (Sco.zku c (zdf cum c.tag) l) (Sco.zbp c (zdf cum c.tag) x),fun x=>?_,?_⟩
 . have e1:∀ (k:Int) y,(Sco.age k y).number=y.number/\(Sco.age k y).path=y.path/\(Sco.age k y).id=y.id/\(Sco.age k y).chunk=y.chunk:=fun k y=>by unfold Sco.age;(repeat' split)<;>exact ⟨rfl,rfl,rfl,rfl⟩
   have e2:∀ k y,(Sco.zbp c k y).number=y.number/\(Sco.zbp c k y).path=y.path/\(Sco.zbp c k y).id=y.id/\(Sco.zbp c k y).chunk=y.chunk:=fun k y=>by unfold Sco.zbp;split<;>exact ⟨rfl,rfl,rfl,rfl⟩
   obtain ⟨a1,a2,a3,a4⟩:=e1 (Sco.zku c (zdf cum c.tag) l) (Sco.zbp c (zdf cum c.tag) x);obtain ⟨b1,b2,b3,b4⟩:=e2 (zdf cum c.tag) x;exact ⟨a1.trans b1,a2.trans b2,a3.trans b3,a4.trans b4⟩
 . rw [Sco.zfq,zy0 hk]
   dsimp only;rw [Sco.left,zni h (by omega),zy95];rfl
theorem yde (h:SI N s) {c:Chunk} (hk:¬ (zdf s.cum c.tag<s.cum\/zdf s.cum c.tag>s.cum+s.out.length)):SI N (zgo s c (Sco.zfq s.out s.cum c s.paths.length)):=by
 obtain ⟨g,hg,e⟩:=xel (np:=s.paths.length) h.nums hk;have e2:(Sco.zfq s.out s.cum c s.paths.length).2.1=zdf s.cum c.tag:=by rw [Sco.zfq,zy0 hk]
 have hl:(zgo s c (Sco.zfq s.out s.cum c s.paths.length)).paths.length=s.paths.length:=by
  show (List.mapIdx _ (List.mapIdx _ _)).length=_;simp
 have ho:(zgo s c (Sco.zfq s.out s.cum c s.paths.length)).out=(s.out.drop (zdf s.cum c.tag-s.cum).toNat).map g:=e;have hc:(zgo s c (Sco.zfq s.out s.cum c s.paths.length)).cum=zdf s.cum c.tag:=e2;have hn:=h.next;have hcu:=h.cum;refine ⟨h.cfg,fun i x hx=>?_,?_,?_,h.owes,by rw [hl];exact h.npaths,h.nhad,h.nmids,h.waits,h.queue,fun x hx=>?_,fun i p hp=>?_,h.many,h.few⟩
 case refine_5=>have:=zwy (s:={s with out:=(Sco.zfq s.out s.cum c s.paths.length).1,cum:=(Sco.zfq s.out s.cum c s.paths.length).2.1,room:=c.room,paths:=zgr s.paths s.config.part (decide ((Sco.zfq s.out s.cum c s.paths.length).2.1>s.cum)) (Sco.zfq s.out s.cum c s.paths.length).2.2.1}) hp;exact this
 . rw [ho,zy10,zy44] at hx
   cases hy:s.out[(zdf s.cum c.tag-s.cum).toNat+i]? with
   | none=>rw [hy] at hx;cases hx
   | some y =>
    rw [hy] at hx;cases hx;rw [(hg y).1,h.nums _ y hy,hc];push_cast;omega
 . rw [ho,hc,zy2,zy34]
   show s.next=_;omega
 . rw [hc];show s.config.first-1<=_;omega
 . rw [ho] at hx
   obtain ⟨y,hy,rfl⟩:=zy28.1 hx;have q:=h.out y (zy81 hy);obtain ⟨g1,g2,g3,g4⟩:=hg y;rw [hl];exact yy67
theorem yru (h:SI N s) {part:Int} {L:List Int}:SI N (zhq part s L):=by
 unfold zhq;split
 . exact h
 . split
   . refine h.side (zgi _ _ _) fun i p hp=>?_
     rcases zva hp with ⟨-,hp⟩ | ⟨rfl,q,hq,rfl⟩
     . exact h.zak i p hp
     . rw [<- h.zak _ q hq];rfl
   . exact h
theorem yrv (h:SI N s) {b:Bool}:SI N (zen b s):=by
 unfold zen;split
 . exact h.side rfl h.zak
 . exact h
theorem yuq (h:SI N s):SI N (settle s):=by
 have hl:(settle s).fates.length=s.fates.length:=by show (List.mapIdx _ _).length=_;simp
 refine ⟨h.cfg,h.nums,h.next,h.cum,by rw [hl];exact h.owes,h.npaths,h.nhad,h.nmids,h.waits,fun m hm=>?_,fun x hx=>by rw [hl];exact h.out x hx,h.zak,by rw [hl];exact h.many,h.few⟩;have hm:m∈s.queue:=hm;have q:=h.queue m hm;have q0:=q.id0;refine ⟨q.id0,by rw [hl];exact q.id1,?_,q.st0,q.st1,q.len1,q.len2,q.parts,q.sent,q.left⟩;show (s.fates.mapIdx fun id f=>settled s id f)[m.id.toNat]?=some 1;rw [zy48,q.fate];show some (settled s m.id.toNat 1)=some 1;rw [settled,zy0];rintro ⟨-,h2,-⟩;rw [zy120] at h2;exact h2 m hm (zy16 zz0)
theorem yrt (h:SI N s) (c:Chunk):SI N (zkc s c):=by
 unfold zkc;split
 . exact h
 split
 . exact h
 . rename_i c1 c2
   rw [zkd];exact yuq (yrv (yru (yde h c2)))
theorem yrd (i j:Nat):∀ l:List zbr,Sco.fl j (l.map (Sco.late i))=if i=j then 0 else Sco.fl j l
 | []=>by simp [Sco.fl]
 | x::l=>by
  rw [zy24,zpt,yrd i j l,zpt (j:Int) x l,Sco.zww,Sco.zww];unfold Sco.late;by_cases c:x.state=1/\x.path=i
  . rw [zy1 c,zy0 (by rintro ⟨h,-⟩;cases h)]
    by_cases e:i=j
    . rw [zy1 e,zy1 e]
    . rw [zy0 e,zy0 e,zy0 (by rintro ⟨-,h⟩;have:=c.2;omega)]
  . rw [zy0 c]
    by_cases e:i=j
    . subst e;rw [zy1 rfl,zy1 rfl,zy0 c]
    . rw [zy0 e,zy0 e]
theorem ylq (h:SI N s) (part:Int) (i:Nat):SI N (zem part s i):=by
 unfold zem;split
 . exact h
 rename_i p hp;split
 . exact h
 have hil:=(zy9.1 hp).1;have h2:SI N {s with out:=s.out.map (Sco.late i),paths:=s.paths.set i (Paths.late p part)}:=by
  have e:∀ x,(Sco.late i x).number=x.number/\(Sco.late i x).path=x.path/\(Sco.late i x).id=x.id/\(Sco.late i x).chunk=x.chunk:=fun x=>by unfold Sco.late;split<;>exact ⟨rfl,rfl,rfl,rfl⟩
  refine ⟨h.cfg,fun j y hy=>?_,?_,h.cum,h.owes,?_,h.nhad,h.nmids,h.waits,h.queue,fun y hy=>?_,fun j q hq=>?_,h.many,h.few⟩
  . have hy:(s.out.map (Sco.late i))[j]?=some y:=hy
    rw [zy10] at hy;cases hz:s.out[j]? with
    | none=>rw [hz] at hy;cases hy
    | some z=>rw [hz] at hy;cases hy;rw [(e z).1];exact h.nums j z hz
  . show s.next=s.cum+1+((s.out.map (Sco.late i)).length:Int)
    rw [zy2];exact h.next
  . show ((s.paths.set i _).length:Int)=_
    rw [zy30];exact h.npaths
  . have hy:y∈s.out.map (Sco.late i):=hy
    obtain ⟨z,hz,rfl⟩:=zy28.1 hy;have q:=h.out z hz;obtain ⟨g1,g2,g3,g4⟩:=e z;show XI (s.paths.set i _).length _ _;rw [zy30];exact yy67
  . have hq:(s.paths.set i (Paths.late p part))[j]?=some q:=hq
    show q.zak=(Sco.fl j (s.out.map (Sco.late i)):Nat);rw [yrd];by_cases e:i=j
    . subst e
      rw [zy27 hil] at hq;cases hq;rw [zy1 rfl];rfl
    . rw [zy45 e] at hq
      rw [zy0 e];exact h.zak j q hq
 dsimp only;split
 . exact h2.side rfl h2.zak
 . exact h2
theorem ylr (part:Int):∀ (L:List Nat) {s:zab},SI N s->SI N (L.foldl (zem part) s)
 | [],_,h=>h
 | i::L,_,h=>ylr part L (ylq h part i)
theorem ybh (h:SI N s):SI N (tick s):=ylr _ _ (h.side rfl h.zak)
end
end Snd
namespace Sch
end Sch
namespace Sco
open Ser
end Sco
namespace Sco
open Ser
end Sco
namespace Sco
open Ser
end Sco
namespace Snd
open Ser
end Snd
namespace Snd
open Ser
end Snd
namespace Snd
open Ser
end Snd
namespace Snd
open Ser
end Snd
namespace Snd
open Ser
end Snd
namespace Snd
open Ser
end Snd
namespace Snd
open Ser
section
variable {L:List Message} {s:zab}
end
theorem ykb (s:zab) (id:Nat):(zfn s id).config=s.config:=(zjl s id).1.config
theorem ycl:∀ (q:List zaf) (s:zab),(∀ m∈q,0<=m.id)->(q.foldl zkx s).config=s.config
 | [],_,_=>rfl
 | m::q,s,h=>by
  rw [zy39,ycl q _ fun x hx=>h x (by simp [hx])];unfold zkx;split
  . have:=h m zz4
    rw [show m.id=((m.id.toNat:Nat):Int) by omega];exact ykb s _
  . rfl
theorem ycm:∀ (q:List zbr) (s:zab),(∀ m∈q,0<=m.id)->(q.foldl zid s).config=s.config
 | [],_,_=>rfl
 | m::q,s,h=>by
  rw [zy39,ycm q _ fun x hx=>h x (by simp [hx])];unfold zid;split
  . have:=h m zz4
    rw [show m.id=((m.id.toNat:Nat):Int) by omega];exact ykb s _
  . rfl
theorem ynr {N:Nat} {s:zab} (h:SI N s):(expire s).config=s.config:=by
 obtain ⟨h2,-⟩:=zzd s.queue s h fun m hm=>⟨(h.queue m hm).id0,(h.queue m hm).id1⟩
 unfold expire;rw [ycm _ _ fun x hx=>(h2.out x hx).id0,ycl _ _ fun m hm=>(h.queue m hm).id0]
theorem yre (p:zgj) (i c:Nat):(fly p i c).s.config=p.s.config:=by unfold fly;split<;>rfl
theorem zwk {c:Nat}:∀ (l:List Nat) (p:zgj),(l.foldl (zdn c) p).s.config=p.s.config
 | [],_=>rfl
 | i::l,p=>by
  rw [zy39,zwk l];unfold zdn;split
  . rfl
  . split
    . exact yre _ _ _
    . rfl
theorem yyc {p q:zgj} (h:next p=some q):q.s.config=p.s.config:=by
 obtain ⟨s,o⟩:=p;unfold next at h;dsimp only at h;split at h
 . cases h
 cases hm:s.queue[(zdi s).toNat]? with
 | none=>rw [hm] at h;cases h
 | some m =>
  rw [hm] at h;dsimp only at h;split at h
  . cases h
  . cases h
    rw [zlq,yre];rfl
theorem yee:∀ (n:Nat) (p:zgj),(zgl n p).s.config=p.s.config
 | 0,_=>rfl
 | n+1,p=>by
  unfold zgl;split
  . rfl
  . rename_i q hq;rw [yee n q,yyc hq]
theorem yhe (p:zgj):(forward p).s.config=p.s.config:=by unfold forward;split<;>rfl
theorem yyy {N:Nat} {s:zab} (h:SI N s):(zfl s).1.config=s.config:=by
 show (zhy s).s.config=_;unfold zhy;rw [yee];unfold again;rw [zwk,yhe];exact ynr h
theorem yxf (s:zab) (c:Chunk):(zkc s c).config=s.config:=by
 unfold zkc;split
 . rfl
 split
 . rfl
 rw [zkd];show (zen _ _).config=_;have h2:∀ b u,(zen b u).config=u.config:=fun b u=>by unfold zen;split<;>rfl
 have h3:∀ p t L,(zhq p t L).config=t.config:=fun p t L=>by
  unfold zhq;split
  . rfl
  . split<;>rfl
 rw [h2,h3];rfl
end Snd
namespace Jn
open Srt
def zlm (n:Nat):Nat->List zay->Option (List UInt8)
 | _,[]=>some []
 | i,p::r=>if p.chunk.part=(i:Int)/\p.chunk.last=decide (i+1=n) then (zlm n (i+1) r).map (p.chunk.data++·) else none
def join (l:List zay):Option (List UInt8):=if l=[] then none else zlm l.length 0 (srt ck l)
def xab (i:Nat):List zay->Prop
 | []=>True
 | p::r=>p.chunk.part=(i:Int)/\xab (i+1) r
theorem zmg {n:Nat}:∀ {S:List zay} {i:Nat} {b:List UInt8},zlm n i S=some b->xab i S
 | [],_,_,_=>trivial
 | p::r,i,b,h=>by
  rw [zlm] at h;split at h
  . rename_i c
    obtain ⟨d,hd,-⟩:=zy29.1 h;exact ⟨c.1,zmg hd⟩
  . cases h
def tot (l:List zay):Nat:=(l.map fun p=>p.chunk.data.length).sum
theorem ync {l l':List zay} (h:l.Perm l'):tot l=tot l':=(h.map _).sum_nat
theorem zev (p:zay) (l:List zay):tot (p::l)=p.chunk.data.length+tot l:=rfl
theorem zvp (a b:List zay):tot (a++b)=tot a+tot b:=by simp [tot]
theorem xez {l:List zay} {p:zay} (h:p∈l):p.chunk.data.length<=tot l:=by
 induction l with
 | nil=>cases h
 | cons q l ih =>
  rw [zev];rcases zy18.1 h with rfl | h
  . omega
  . have:=ih h;omega
def cat (l:List zay):List UInt8:=(l.map fun p=>p.chunk.data).flatten
theorem yjq (l:List zay) (p:zay):cat (l++[p])=cat l++p.chunk.data:=by simp [cat]
theorem xca (l:List zay):(cat l).length=tot l:=by induction l with
 | nil=>rfl
 | cons p l ih=>rw [zev,<- ih];simp [cat]
abbrev pieces (l:List zay):HV:=.p (.sl 12 (l.map zay.row))
theorem zyd (n:Int):zao Tryz.prog 214 [i64 n] zae (zbk false) zae:=by
 refine zap mixed Tryz.func214 zz5 ?_;(conv=>whnf);simp
theorem yfn (a b:Int):zao Tryz.prog 209 [i64 a,i64 b] zae (i64 (if a<b then -1 else if a>b then 1 else 0)) zae:=by
 refine zap mixed Tryz.func209 zz5 ?_;(conv=>whnf)
 (refine cL ?_;refine dL (zyd a) ?_)
 (refine cL ?_;refine dL (zyd b) ?_)
 by_cases c:a<b
 . rw [zy1 c]
   ((refine xgd ?_;conv=>whnf);try refine sG ?_)
 rw [zy0 c];refine sN ?_;by_cases c2:a>b
 . rw [zy1 c2]
   ((refine xgd ?_;conv=>whnf);try refine sG ?_)
 rw [zy0 c2]
 ((refine xig ?_;conv=>whnf);try refine sG ?_)
theorem yax:ybq 208:=fun a b=>by
 refine zap mixed Tryz.func208 zz5 ?_;(conv=>whnf)
 (refine cL ?_;refine dL (yfn a.chunk.part b.chunk.part) ?_)
 rfl
theorem yvs {x:HV} {a b:Bool} (h:a=b):HV.tup [x,zbk a]=HV.tup [x,zbk b]:=by rw [h]
theorem yca (l:List zay) (hb:l.length<2 ^ 39):zao Tryz.prog 206 [.p (.sl 12 (l.map zay.row))] zae (.own 0) (lk .free [(0,.live (.row 162 12 (l.map zay.row)))]):=by
 refine zan mixed Tryz.func206 zz5 [] (fun _=>.inl rfl) ?_;(conv=>whnf);intro b hn;(conv=>whnf);refine zah (fun c=>?_) (fun c=>?_)
 . conv=>whnf
   exact yy14
 . conv=>whnf
   refine zaa (c:=(([]:List (List PV)).length+(l.map zay.row).length)*136<=140737488355328) zz3 ?_;exact yy9
theorem yvb (l:List zay) (hb:l.length<2 ^ 38) (ht:tot l<2 ^ 40) :
 zao Tryz.prog 200 [pieces l] zae (.tup [.own 0,zbk (join l).isSome]) (lk .free [(0,.live (.row 5 1 (((join l).getD []).map zdu)))]):=by
 refine zan mixed Tryz.func200 zz5 [] (fun _=>.inl rfl) ?_;(conv=>whnf)
 (refine zas [(0,9)] ?_;(conv=>whnf);refine dO (yca l zz0) ?_)
 (refine zac [] [(1000,9)] [] ?_;(conv=>whnf);refine dG (yvk yax l zz0) ?_)
 have hl:=zjx (key:=ck) l;have ht2:tot (srt ck l)<2 ^ 40:=by rw [ync zpf];exact ht
 obtain ⟨S,hS⟩:∃ S,S=srt ck l:=⟨_,rfl⟩
 have hj:join l=if l=[] then none else zlm S.length 0 S:=by rw [join,<- hS,<- hl,hS]
 rw [<- hS] at hl ht2;refine ⟨{x:List zay×List zay // S=x.1++x.2/\zlm S.length 0 S=(zlm S.length x.1.length x.2).map (cat x.1++·)},fun | ⟨(A,B),_⟩=>hs 45 [(4,.own 900),(5,.own 901),(12,.own 900),(13,i64 S.length),(14,i64 A.length)] [(900,.live (.row 162 12 (S.map zay.row))),(901,.live (.row 5 1 ((cat A).map zdu)))],fun x=>x.1.2.length,⟨([],S),rfl,by simp [cat]⟩,?_,?_⟩
 . exact (zcr [(900,some 9),(901,none)] (by repeat' (first | exact z0 | refine z1 ?_ | refine ⟨?_,?_⟩ | ((exact zbj (by rw [zy2,hS]))) | ((exact zaq (by rw [hS]))) | exact z2)))
 rintro ⟨⟨A,B⟩,h,hr⟩;dsimp only at h hr;have hAB:S.length=A.length+B.length:=by rw [h];simp
 have htA:tot S=tot A+tot B:=by rw [h,zvp]
 (conv=>whnf);cases B with
 | nil =>
  rw [zy14] at hAB;rw [zlm] at hr;have hcat:zlm S.length 0 S=some (cat A):=by rw [hr];simp
  have h0:tot []=0:=rfl;refine sN ?_;by_cases hln:l=[]
  . subst hln
    have hl0:S.length=0:=hl;have:A=[]:=zy21 zz0;subst this;refine zam [(0,some 901)] rfl rfl trivial rfl (yvs ?_) ⟨⟨rfl,.inl ⟨901,rfl,rfl⟩⟩,trivial⟩;rw [zy2,hl0];rfl
  . have:=zy32.2 hln
    have hjv:join l=some (cat A):=by rw [hj,zy0 hln,hcat]
    rw [hjv];refine zam [(0,some 901)] rfl rfl trivial rfl (yvs ?_) ⟨⟨rfl,.inl ⟨901,rfl,rfl⟩⟩,trivial⟩;simp;omega
 | cons p B =>
  rw [zy5] at hAB;rw [zev] at htA;rw [zlm] at hr;have hca:=xca A;have hln:l≠[]:=fun h=>by subst h;have hl0:S.length=0:=hl;omega
  rw [zy0 hln] at hj;refine sT ?_;refine sO ?_;refine zal h zz4 (zw ?_);have e:((A.length:Int)==((S.map zay.row).length:Int)-1)=decide (A.length+1=S.length):=by
   rw [zy2,zy143];simp;omega
  by_cases c1:p.chunk.part=(A.length:Int)
  . refine zag (by simp [c1]) (zw ?_)
    refine sF ?_;by_cases c2:p.chunk.last=decide (A.length+1=S.length)
    . rw [zy1 ⟨c1,c2⟩] at hr
      refine zag (by rw [e,c2];simp) (zw ?_)
      try refine sG ?_
      refine zaa (c:=(((cat A).map zdu).length+(p.chunk.data.map zdu).length)*1<=140737488355328) zz3 (zw ?_)
      try refine sG ?_
      refine sF ?_;refine ⟨⟨(A++[p],B),by rw [h];simp,by dsimp only;rw [hr,Option.map_map,zy6,zy57];congr 1;funext x;simp [yjq]⟩,(zcr [(900,some 900),(901,some 39)] (by repeat' (first | exact z0 | refine z1 ?_ | refine ⟨?_,?_⟩ | ((exact zaq (by rw [yjq];simp))) | exact z2))),by simp⟩
    . rw [zy0 fun h=>c2 h.2] at hr
      have hjv:join l=none:=by rw [hj,hr];rfl
      refine zai (by rw [e];cases hp:p.chunk.last<;>cases hd:decide (A.length+1=S.length)<;>simp_all) (zw ?_);exact yy94
  . rw [zy0 fun h=>c1 h.1] at hr
    have hjv:join l=none:=by rw [hj,hr];rfl
    refine zai zz51 ?_;conv=>whnf
    exact yy94
end Jn
end Go.HL
namespace Go.HL
namespace Ser
def zky:List Span->Prop
 | []=>True
 | s::r=>s.lo<=s.hi/\-9223372036854775808<=s.lo/\s.hi<=9223372036854775807/\(∀ t∈r,s.hi+1<t.lo)/\zky r
theorem zkj:∀ {a b:List Span},zky (a++b)↔zky a/\zky b/\∀ s∈a,∀ t∈b,s.hi+1<t.lo
 | [],b=>by simp [zky]
 | s::a,b=>by
  simp only [zy38,zky,zkj (a:=a) (b:=b),zy17,zy18]
  constructor
  . rintro ⟨h1,h2,h3,h4,h5,h6,h7⟩
    exact ⟨⟨h1,h2,h3,fun t ht=>h4 t (.inl ht),h5⟩,h6,fun x hx t ht=>by rcases hx with rfl | hx;exact h4 t (.inr ht);exact h7 x hx t ht⟩
  . rintro ⟨⟨h1,h2,h3,h4,h5⟩,h6,h7⟩
    exact ⟨h1,h2,h3,fun t ht=>by rcases ht with ht | ht;exact h4 t ht;exact h7 s (.inl rfl) t ht,h5,h6,fun x hx t ht=>h7 x (.inr hx) t ht⟩
theorem ziu:∀ {l:List Span},zky l->∀ s∈l,s.lo<=s.hi/\-9223372036854775808<=s.lo/\s.hi<=9223372036854775807
 | s::r,h,t,ht=>by
  rcases zy18.1 ht with rfl | ht
  . exact ⟨h.1,h.2.1,h.2.2.1⟩
  . exact ziu h.2.2.2.2 t ht
theorem yhm {l:List Span} {n:Int}:has l n=true↔∃ s∈l,s.lo<=n/\n<=s.hi:=by
 simp [has,zy103]
theorem yrp {l:List Span} {n:Int}:has l n=false↔∀ s∈l,¬ (s.lo<=n/\n<=s.hi):=by
 rw [<- zy156,yhm];simp
theorem zzn (a b:List Span) (n:Int):has (a++b) n=(has a n||has b n):=by simp [has]
theorem zsm (s:Span) (b:List Span) (n:Int):has (s::b) n=((decide (s.lo<=n)&&decide (n<=s.hi))||has b n):=by simp [has]
def yoi (n:Int) (s:Span):Bool:=decide (s.hi<n)
def below (l:List Span) (n:Int):List Span:=l.takeWhile (yoi n)
def zfj (l:List Span) (n:Int):List Span:=l.dropWhile (yoi n)
def zws (n:Int) (a:List Span):List Span×Int:=match a.getLast? with
 | some s=>if s.hi=n-1 then (a.dropLast,s.lo) else (a,n)
 | none=>(a,n)
def zsj (n:Int):List Span->Int×List Span
 | t::r=>if t.lo=n+1 then (t.hi,r) else (n,t::r)
 | []=>(n,[])
def add (l:List Span) (n:Int):List Span :=
 if has l n then l else (zws n (below l n)).1++⟨(zws n (below l n)).2,(zsj n (zfj l n)).1⟩::(zsj n (zfj l n)).2
theorem split (l:List Span) (n:Int):l=below l n++zfj l n:=(List.takeWhile_append_dropWhile).symm
theorem zsi {l:List Span} {n:Int}:∀ s∈below l n,s.hi<n:=fun s hs=>by
 have:=zy7.1 (List.all_takeWhile (p:=yoi n) (l:=l)) s hs
 simpa [yoi] using this
theorem yjh {l:List Span} {n:Int} (h:zky l) (hn:has l n=false):∀ s∈zfj l n,n<s.lo:=by
 intro s hs;have hsp:=split l n;have hr:zky (zfj l n):=by rw [hsp] at h;exact (zkj.1 h).2.1
 have hno:∀ t∈zfj l n,¬ (t.lo<=n/\n<=t.hi):=fun t ht=>yrp.1 hn t (by rw [hsp];exact zy161 _ ht)
 have hhd:∀ t r,zfj l n=t::r->¬ t.hi<n:=by
  intro t r e hlt;have:=zy145 (yoi n) l;rw [show l.dropWhile (yoi n)=t::r from e] at this;simp [yoi] at this;omega
 cases ha:zfj l n with
 | nil=>rw [ha] at hs;simp at hs
 | cons t r =>
  have h1:=hhd t r ha;have h2:=hno t (by rw [ha];simp);rw [ha] at hr hs;have h3:=hr.1;rcases zy18.1 hs with rfl | hs
  . omega
  . have:=hr.2.2.2.1 s hs;omega
theorem yqm {l:List Span} {n:Int} (h:zky l):∀ (i:Nat) (hi:i<l.length),l[i].hi<n↔i<(below l n).length:=by
 intro i hi;have hsp:=split l n
 constructor
 . intro hlt
   apply Classical.byContradiction;intro hge;have hmem:l[i]∈zfj l n:=by
    have e:l[i]?=(zfj l n)[i-(below l n).length]?:=by
     conv=>lhs;rw [hsp]
     exact zy50 zz0
    rw [zy3 hi] at e;exact zy12 e.symm
   have hr:zky (zfj l n):=by rw [hsp] at h;exact (zkj.1 h).2.1
   cases ha:zfj l n with
   | nil=>rw [ha] at hmem;simp at hmem
   | cons t r =>
    have h1:¬ t.hi<n:=by
     exact yy98
    rw [ha] at hr hmem;rcases zy18.1 hmem with e | hm
    . rw [e] at hlt;exact h1 hlt
    . have h4:=hr.2.2.2.1 _ hm
      have h5:=(ziu hr.2.2.2.2 _ hm).1;have:=hr.1;omega
 . intro hlt
   have e:l[i]?=(below l n)[i]?:=by
    conv=>lhs;rw [hsp]
    exact zy35 hlt
   rw [zy3 hi] at e;exact zsi _ (zy12 e.symm)
theorem yqp {a:List Span} {n:Int} (h:zky a) (hn:∀ s∈a,s.hi<n) :
 (zws n a).2<=n/\(∀ s∈(zws n a).1,s.hi+1<(zws n a).2)/\zky (zws n a).1/\(-9223372036854775808<=n->-9223372036854775808<=(zws n a).2)/\∀ m,(has (zws n a).1 m||(decide ((zws n a).2<=m)&&decide (m<n)))=has a m:=by
 rcases zy135 a with rfl | ⟨a',s,rfl⟩
 . simp [zws,zky,has]
   intro m hm;exact zy43 hm
 . rw [zy117] at h hn ⊢
   have hs:=hn s zz4;have hr:=zkj.1 h;have h3:∀ x∈a',x.hi+1<s.lo:=fun x hx=>hr.2.2 x hx s zz4
   have h4:=hr.2.1.1;simp only [zws,List.getLast?_concat];split
   . rename_i he
     simp only [List.dropLast_concat];refine ⟨by omega,h3,hr.1,fun _=>hr.2.1.2.1,fun m=>?_⟩;rw [zzn,zsm];have:decide (m<n)=decide (m<=s.hi):=by rw [zy160];omega
     rw [this];simp [has]
   . rename_i he
     refine ⟨zy99 _,fun x hx=>?_,h,fun h=>h,fun m=>?_⟩
     . rcases zy17.1 hx with hx | hx
       . have:=h3 x hx;dsimp only;omega
       . rw [zy23.1 hx];dsimp only;omega
     . have:(decide (n<=m)&&decide (m<n))=false:=by simp<;>omega
       dsimp only;rw [this,Bool.or_false]
theorem yqq {b:List Span} {n:Int} (h:zky b) (hn:∀ s∈b,n<s.lo) :
 n<=(zsj n b).1/\(∀ s∈(zsj n b).2,(zsj n b).1+1<s.lo)/\zky (zsj n b).2/\(n<=9223372036854775807->(zsj n b).1<=9223372036854775807)/\∀ m,(has (zsj n b).2 m||(decide (n<m)&&decide (m<=(zsj n b).1)))=has b m:=by
 cases b with
 | nil =>
  simp [zsj,zky,has];intro m hm;exact zy19 zz0
 | cons t r =>
  have ht:=hn t zz4;simp only [zsj];split
  . rename_i he
    refine ⟨by have:=h.1;dsimp only;omega,h.2.2.2.1,h.2.2.2.2,fun _=>h.2.2.1,fun m=>?_⟩;rw [zsm,Bool.or_comm];congr 2;rw [zy160];omega
  . rename_i he
    refine ⟨zy99 _,fun x hx=>?_,h,fun h=>h,fun m=>?_⟩
    . rcases zy18.1 hx with rfl | hx
      . dsimp only;omega
      . have:=h.2.2.2.1 x hx;have:=h.1;dsimp only;omega
    . have:(decide (n<m)&&decide (m<=n))=false:=by simp
      dsimp only;rw [this,Bool.or_false]
theorem yjj {l:List Span} {n:Int} (h:zky l) (h1:-9223372036854775808<=n) (h2:n<=9223372036854775807):zky (add l n)/\∀ m,has (add l n) m=(has l m||decide (m=n)):=by
 unfold add;cases hn:has l n with
 | true =>
  refine ⟨h,fun m=>?_⟩;by_cases hm:m=n
  . subst hm;simp [hn]
  . simp [hm]
 | false =>
  simp only [zy79,if_false];have hsp:=split l n;have hab:=h;rw [hsp] at hab;obtain ⟨ra,rb,rab⟩:=zkj.1 hab;obtain ⟨a1,a2,a3,a4,a5⟩:=yqp ra zsi;obtain ⟨b1,b2,b3,b4,b5⟩:=yqq rb (yjh h hn);have a4:=a4 h1;have b4:=b4 h2;have b6:∀ s∈(zsj n (zfj l n)).2,n<s.lo:=fun s hs=>by have:=b2 s hs;omega
  refine ⟨zkj.2 ⟨a3,⟨by dsimp only;omega,a4,b4,b2,b3⟩,fun s hs t ht=>?_⟩,fun m=>?_⟩
  . rcases zy18.1 ht with rfl | ht
    . exact a2 s hs
    . have:=a2 s hs;have:=b6 t ht;omega
  . have e:has l m=(has (below l n) m||has (zfj l n) m):=by rw [<- zzn,<- hsp]
    rw [zzn,zsm,e,<- a5 m,<- b5 m];generalize has (zws n (below l n)).1 m=A;generalize has (zsj n (zfj l n)).2 m=B;dsimp only;rcases Int.lt_trichotomy m n with hlt | rfl | hgt
    . have e1:decide (m<n)=true:=by simpa using hlt
      have e2:decide (n<m)=false:=by simp;omega
      have e3:decide (m=n)=false:=by simp;omega
      have e4:decide (m<=(zsj n (zfj l n)).1)=true:=by simp;omega
      rw [e1,e2,e3,e4];simp [Bool.or_assoc,Bool.or_comm,Bool.or_left_comm]
    . have e4:decide (m<=(zsj m (zfj l m)).1)=true:=by simp;omega
      have e5:decide ((zws m (below l m)).2<=m)=true:=by simp;omega
      rw [e4,e5];simp
    . have e1:decide (m<n)=false:=by simp;omega
      have e2:decide (n<m)=true:=by simpa using hgt
      have e3:decide (m=n)=false:=by simp;omega
      have e4:decide ((zws n (below l n)).2<=m)=true:=by simp;omega
      rw [e1,e2,e3,e4];simp [Bool.or_assoc,Bool.or_comm,Bool.or_left_comm]
end Ser
namespace Ser
def cmp (n:Int) (s:Span):Int:=if s.hi<n then -1 else if s.lo>n then 1 else 0
theorem yax (n:Int) (s:Span):zao Tryz.prog 196 [s.hv,i64 n] zae (i64 (cmp n s)) zae:=by
 refine zap mixed Tryz.func196 zz5 ?_;(conv=>whnf);refine zah (fun c=>?_) (fun c=>?_)
 . have c:s.hi<n:=by simpa using c
   (conv=>whnf);rw [cmp,zy1 c]
 . have c:¬ s.hi<n:=by simpa using c
   (conv=>whnf);refine zah (fun c2=>?_) (fun c2=>?_)
   . have c2:s.lo>n:=by simpa using c2
     (conv=>whnf);rw [cmp,zy0 c,zy1 c2]
   . have c2:¬ s.lo>n:=by simpa using c2
     (conv=>whnf);rw [cmp,zy0 c,zy0 c2]
theorem xfs {n:Int} {s:Span}:cmp n s<0↔s.hi<n:=by
 unfold cmp;split
 . simp [*]
 . split<;>simp [*]
theorem found {l:List Span} {n:Int} (h:zky l):ztj (cmp n) l (below l n).length=has l n:=by
 have hsp:=split l n;have e:l[(below l n).length]?=(zfj l n)[0]?:=by
  conv=>lhs;arg 1;rw [hsp]
  rw [zy50 (zy22 _),zy98]
 have e2:has l n=has (zfj l n) n:=by
  conv=>lhs;arg 1;rw [hsp]
  rw [zzn,yrp.2 fun s hs=>by have:=zsi s hs;omega,Bool.false_or]
 rw [ztj,e,e2];cases ha:zfj l n with
 | nil=>rfl
 | cons t r =>
  have hr:zky (zfj l n):=by rw [hsp] at h;exact (zkj.1 h).2.1
  rw [ha] at hr;have h1:¬ t.hi<n:=by
   exact yy98
  have h2:has r n=false:=yrp.2 fun s hs=>by have:=hr.2.2.2.1 s hs;omega
  rw [zsm,h2,Bool.or_false];show (cmp n t==0)=_;rw [cmp,zy0 h1];by_cases c:t.lo>n
  . rw [zy1 c,zy19 (by omega)];rfl
  . rw [zy0 c,zy16 (by omega),zy16 (by omega)];rfl
theorem zfb (l:List Span) (hb:l.length<2 ^ 40):zao Tryz.prog 150 [.p (.sl 2 (l.map Span.row))] zae (.own 0) (lk .free [(0,.live (.row 199 2 (l.map Span.row)))]):=by
 refine zan mixed Tryz.func150 zz5 [] (fun _=>.inl rfl) ?_;(conv=>whnf);intro b hn;(conv=>whnf);refine zah (fun c=>?_) (fun c=>?_)
 . conv=>whnf
   exact yy14
 . conv=>whnf
   refine zaa (c:=(([]:List (List PV)).length+(l.map Span.row).length)*16<=140737488355328) zz3 ?_;exact yy9
theorem zgt {α:Type} (l:List α):l=[]\/∃ a x,l=a++[x]:=by
 rcases zy135 l with h | ⟨a,x,h⟩
 . exact .inl h
 . exact .inr ⟨a,x,by rw [h,zy117]⟩
theorem zjh (n:Int) (a:List Span) (s:Span):zws n (a++[s])=if s.hi=n-1 then (a,s.lo) else (a++[s],n):=by
 simp [zws]
theorem yap {α:Type} {t n:Nat} {f:α->List PV} {a b:List α} {x y:α} {k:Nat} {r:List PV} (hk:k=a.length) (hr:f y=r) :
 zad.live (.row t n (((a++[x]++b).map f).set k r))=zad.live (.row t n ((a++[y]++b).map f)):=by
 rw [zy33,zy33];exact (zer hk hr).symm
theorem zxx {α:Type} {t n:Nat} {f:α->List PV} {a b:List α} (h:a=b):zad.live (.row t n (a.map f))=zad.live (.row t n (b.map f)):=by rw [h]
theorem yuv (A B:List Span) (n:Int) (hl:zky (A++B)) (hA:below (A++B) n=A) (hB:zfj (A++B) n=B) (hb:(A++B).length<2 ^ 39) (h1:-9223372036854775808<=n) (h2:n<=9223372036854775807) :
 zao Tryz.prog 181 [zau (A++B),i64 n] zae (.own 0) (lk .free [(0,.live (.row 199 2 ((add (A++B) n).map Span.row)))]):=by
 refine zan mixed Tryz.func181 zz5 [] (fun _=>.inl rfl) ?_;have hlen:(A++B).length=A.length+B.length:=zy6;have hf:=found (n:=n) hl;rw [hA] at hf;(conv=>whnf)
 (refine zas [(0,9)]  ?_;(conv=>whnf);refine dO (zfb (A++B) zz0) ?_)
 (refine cZ ?_;refine dL (xeq (yax n) (A++B) A.length zz0 (fun i h=>by rw [xfs,yqm hl i h,hA]) zz0) ?_)
 rw [hf];cases hn:has (A++B) n with
 | true =>
  have ha:add (A++B) n=A++B:=by rw [add,hn];rfl
  rw [ha];(conv=>whnf);refine zam [(0,some 9)] rfl rfl trivial rfl rfl ⟨⟨rfl,.inl ⟨9,rfl,rfl⟩⟩,trivial⟩
 | false =>
  have ha:add (A++B) n=(zws n A).1++⟨(zws n A).2,(zsj n B).1⟩::(zsj n B).2:=by rw [add,hn,hA,hB];rfl
  rw [ha];(conv=>whnf);have hAl:A.length<2 ^ 39:=by omega
  have hlow:∀ s∈A,s.hi<n:=by have:=zsi (l:=A++B) (n:=n);rwa [hA] at this
  have habv:∀ s∈B,n<s.lo:=by have:=yjh hl hn;rwa [hB] at this
  (refine zac [] [(1000,9),(1001,23)] [(0,24)] ?_;(conv=>whnf);refine dG (yhv A B ⟨n,n⟩ _ rfl zz0) ?_ ⟨rfl,rfl,rfl,⟨zz1,⟨zz1,trivial⟩⟩,⟨⟨rfl,rfl⟩,trivial⟩,rfl,rfl,rfl⟩)
  cases B with
  | nil =>
   refine zbl (z':=((A.length+1:Nat):Int)) zz25 (zw ?_);refine sN ?_;have hR:zsj n []=(n,[]):=rfl;rw [hR];rcases zgt A with rfl | ⟨A',s,rfl⟩
   . conv=>whnf
     try refine sG ?_
     exact yy36
   . have hs:s.hi<n:=hlow s zz4
     have hsl:(A'++[s]).length=A'.length+1:=by simp
     have hs2:=ziu hl s zz4;refine sT ?_;refine zbl (z':=((A'.length:Nat):Int)) zz20 (zw ?_);refine sOm ?_;refine zal (show A'++[s]++⟨n,n⟩::[]=A'++s::⟨n,n⟩::[] by simp) rfl (zw ?_);refine zat (z:=n-1) (zbh zz0 zz0) (zw ?_);by_cases he:s.hi=n-1
     . refine sT ?_
       refine zbl (z':=((A'.length:Nat):Int)) zz20 (zw ?_);refine sOm ?_;refine zal (show A'++[s]++⟨n,n⟩::[]=(A'++[s])++⟨n,n⟩::[] from rfl) rfl (zw ?_);refine sOm ?_;refine zal (show A'++[s]++⟨n,n⟩::[]=A'++s::⟨n,n⟩::[] by simp) zz4 (zw ?_);refine zbl (z':=((A'.length+2:Nat):Int)) zz43 (zw ?_);refine zac [] [(1000,24)] [(0,84)] (zw ?_);refine ⟨_,_,_,_,zim (A'++[⟨s.lo,n⟩]) ([]) ⟨n,n⟩ _ _ zz4 zz3 zz69,⟨rfl,rfl,rfl,⟨⟨rfl,_,rfl,.inl ⟨rfl,?_⟩⟩,trivial⟩,⟨⟨rfl,rfl⟩,trivial⟩,rfl,rfl,rfl⟩,?_⟩
       . exact yap (f:=Span.row) (a:=A') (b:=⟨n,n⟩::[]) (x:=s) (y:=⟨s.lo,n⟩) zz4 rfl
       exact yy39
     . refine sN ?_
       rw [zjh,zy0 he];exact yy36
  | cons x B =>
   have hx:=habv x zz4;have hx2:=ziu hl x zz4;have hbl:(x::B).length=B.length+1:=rfl;refine zbl (z':=((A.length+1:Nat):Int)) zz25 (zw ?_);refine sT ?_;refine zbl (z':=((A.length+1:Nat):Int)) zz25 (zw ?_);refine sOm ?_;refine zal (show A++⟨n,n⟩::x::B=(A++[⟨n,n⟩])++x::B by simp) zz4 (zw ?_);refine zat (z:=n+1) (zbh zz0 zz0) (zw ?_);by_cases hr:x.lo=n+1
   . refine sT ?_
     have hR:zsj n (x::B)=(x.hi,B):=by simp [zsj,hr]
     rw [hR];refine zbl (z':=((A.length+1:Nat):Int)) zz25 (zw ?_);refine sOm ?_;refine zal (show A++⟨n,n⟩::x::B=(A++[⟨n,n⟩])++x::B by simp) zz4 (zw ?_);refine sOm ?_;refine zal (show A++⟨n,n⟩::x::B=A++⟨n,n⟩::x::B from rfl) zz4 (zw ?_);refine zbl (z':=((A.length+1:Nat):Int)) zz25 (zw ?_);refine zbl (z':=((A.length+2:Nat):Int)) (by show W ((A.length:Int)+2)=_;rw [zbh (by omega) (by omega)];push_cast;rfl) (zw ?_);refine zac [] [(1000,24)] [(0,56)] (zw ?_);refine ⟨_,_,_,_,ygy (out:=A++⟨n,x.hi⟩::B) (A++[⟨n,x.hi⟩]) B x _ _ rfl zz4 zz4 zz3 zz69,⟨rfl,rfl,rfl,⟨⟨rfl,_,rfl,.inl ⟨rfl,?_⟩⟩,trivial⟩,⟨⟨rfl,rfl⟩,trivial⟩,rfl,rfl,rfl⟩,?_⟩
     . refine (zer (f:=Span.row) (a:=A) (b:=x::B) (x:=⟨n,n⟩) (y:=⟨n,x.hi⟩) zz4 rfl).symm.trans (zxx zz4)
     conv=>whnf
     try refine sG ?_
     rcases zgt A with rfl | ⟨A',s,rfl⟩
     . conv=>whnf
       try refine sG ?_
       refine zam [(0,some 56)] rfl rfl trivial rfl rfl ⟨⟨rfl,.inl ⟨56,rfl,rfl⟩⟩,trivial⟩
     . have hs:s.hi<n:=hlow s zz4
       have hsl:(A'++[s]).length=A'.length+1:=by simp
       have hs2:=ziu hl s zz4;refine sT ?_;refine zbl (z':=((A'.length:Nat):Int)) zz20 (zw ?_);refine sOm ?_;refine zal (show A'++[s]++⟨n,x.hi⟩::B=A'++s::⟨n,x.hi⟩::B by simp) rfl (zw ?_);refine zat (z:=n-1) (zbh zz0 zz0) (zw ?_);by_cases he:s.hi=n-1
       . refine sT ?_
         refine zbl (z':=((A'.length:Nat):Int)) zz20 (zw ?_);refine sOm ?_;refine zal (show A'++[s]++⟨n,x.hi⟩::B=(A'++[s])++⟨n,x.hi⟩::B from rfl) rfl (zw ?_);refine sOm ?_;refine zal (show A'++[s]++⟨n,x.hi⟩::B=A'++s::⟨n,x.hi⟩::B by simp) zz4 (zw ?_);refine zbl (z':=((A'.length+2:Nat):Int)) zz43 (zw ?_);refine zac [] [(1000,56)] [(0,84)] (zw ?_);refine ⟨_,_,_,_,zim (A'++[⟨s.lo,x.hi⟩]) (B) ⟨n,x.hi⟩ _ _ zz4 zz3 zz69,⟨rfl,rfl,rfl,⟨⟨rfl,_,rfl,.inl ⟨rfl,?_⟩⟩,trivial⟩,⟨⟨rfl,rfl⟩,trivial⟩,rfl,rfl,rfl⟩,?_⟩
         . exact yap (f:=Span.row) (a:=A') (b:=⟨n,x.hi⟩::B) (x:=s) (y:=⟨s.lo,x.hi⟩) zz4 rfl
         exact yy39
       . refine sN ?_
         rw [zjh,zy0 he];refine zam [(0,some 56)] rfl rfl trivial rfl rfl ⟨⟨rfl,.inl ⟨56,rfl,rfl⟩⟩,trivial⟩
   . refine sN ?_
     have hR:zsj n (x::B)=(n,x::B):=by simp [zsj,hr]
     rw [hR];rcases zgt A with rfl | ⟨A',s,rfl⟩
     . conv=>whnf
       try refine sG ?_
       exact yy36
     . have hs:s.hi<n:=hlow s zz4
       have hsl:(A'++[s]).length=A'.length+1:=by simp
       have hs2:=ziu hl s zz4;refine sT ?_;refine zbl (z':=((A'.length:Nat):Int)) zz20 (zw ?_);refine sOm ?_;refine zal (show A'++[s]++⟨n,n⟩::x::B=A'++s::⟨n,n⟩::x::B by simp) rfl (zw ?_);refine zat (z:=n-1) (zbh zz0 zz0) (zw ?_);by_cases he:s.hi=n-1
       . refine sT ?_
         refine zbl (z':=((A'.length:Nat):Int)) zz20 (zw ?_);refine sOm ?_;refine zal (show A'++[s]++⟨n,n⟩::x::B=(A'++[s])++⟨n,n⟩::x::B from rfl) rfl (zw ?_);refine sOm ?_;refine zal (show A'++[s]++⟨n,n⟩::x::B=A'++s::⟨n,n⟩::x::B by simp) zz4 (zw ?_);refine zbl (z':=((A'.length+2:Nat):Int)) zz43 (zw ?_);refine zac [] [(1000,24)] [(0,84)] (zw ?_);refine ⟨_,_,_,_,zim (A'++[⟨s.lo,n⟩]) (x::B) ⟨n,n⟩ _ _ zz4 zz3 zz69,⟨rfl,rfl,rfl,⟨⟨rfl,_,rfl,.inl ⟨rfl,?_⟩⟩,trivial⟩,⟨⟨rfl,rfl⟩,trivial⟩,rfl,rfl,rfl⟩,?_⟩
         . exact yap (f:=Span.row) (a:=A') (b:=⟨n,n⟩::x::B) (x:=s) (y:=⟨s.lo,n⟩) zz4 rfl
         exact yy39
       . refine sN ?_
         rw [zjh,zy0 he];exact yy36
end Ser
namespace Ser
theorem yzm (l:List Span) (n:Int) (hl:zky l) (hb:l.length<2 ^ 39) (h1:-9223372036854775808<=n) (h2:n<=9223372036854775807) :
 zao Tryz.prog 181 [zau l,i64 n] zae (.own 0) (lk .free [(0,.live (.row 199 2 ((add l n).map Span.row)))]):=by
 have hsp:=split l n;have h:=yuv (below l n) (zfj l n) n (by rwa [<- hsp]) (by rw [<- hsp]) (by rw [<- hsp]) (by rwa [<- hsp]) h1 h2
 rwa [<- hsp] at h
def up:List Span->Int->Int×List Span
 | [],n=>(n,[])
 | s::r,n=>if s.lo<=n+1 then up r (if s.hi>n then s.hi else n) else (n,s::r)
def wnd:List Span->List Span->HV
 | [],_=>.own 900
 | _::a,b=>.osl 900 2 (a.length+1) b.length
theorem ylg {α:Type} {f:α->List PV} {l a b c:List α} {o n:Nat} {K:List (List PV)->Prop} (h:l=a++b++c) (ho:o=a.length) (hn:n=b.length) (hk:K (b.map f)):zrk (l.map f) o n K:=by
 subst h ho hn;refine ⟨_,rfl,by simp,?_⟩
 rwa [<- zy101,<- zy119,zy33,zy111,zy152]
theorem xax {i s o o' n n':Nat} (ho:o=o') (hn:n=n'):HV.osl i s o n=.osl i s o' n':=by rw [ho,hn]
theorem yvo (l:List Span) (n:Int) (hl:∀ s∈l,s.hi<=1099511627776) (hb:l.length<2 ^ 39) (h1:-1099511627776<=n) (h2:n<=1099511627776) :
 zao Tryz.prog 180 [zau l,i64 n] zae (.tup [i64 (up l n).1,.own 0]) (lk .free [(0,.live (.row 199 2 ((up l n).2.map Span.row)))]):=by
 refine zan mixed Tryz.func180 zz5 [] (fun _=>.inl rfl) ?_;generalize hR:up l n=R;(conv=>whnf)
 (refine zas [(0,8)]  ?_;(conv=>whnf);refine dO (zfb l zz0) ?_)
 refine ⟨{x:(List Span×List Span)×Int // l=x.1.1++x.1.2/\R=up x.1.2 x.2/\-1099511627776<=x.2/\x.2<=1099511627776},fun | ⟨((a,b),m),_⟩=>hs 32 [(1,i64 m),(6,wnd a b)] [(900,.live (.row 199 2 (l.map Span.row)))],fun x=>x.1.1.2.length,⟨(([],l),n),rfl,hR.symm,h1,h2⟩,?_,?_⟩
 . exact (zdx [(900,some 8)])
 rintro ⟨⟨⟨a,b⟩,m⟩,h,hu,hm1,hm2⟩;dsimp only at h hu hm1 hm2;have hlen:l.length=a.length+b.length:=by rw [h];simp
 have hlm:(l.map Span.row).length=l.length:=by simp
 cases a with
 | nil =>
  rw [zy92] at h;rw [zy14,zy59] at hlen;(conv=>whnf);cases b with
  | nil =>
   rw [zy14] at hlen;refine sN ?_
   (refine zas [(0,31)]  ?_;(conv=>whnf);refine dO (zfb l zz0) ?_)
   exact yy93
  | cons s r =>
   rw [zy5] at hlen;have hs:=hl s zz66;refine sT ?_;refine zaa zz0 (zw ?_);refine zal (a:=[]) h rfl (zw ?_);refine sF ?_;by_cases c:s.lo<=m+1
   . refine sT ?_
     refine zaa zz0 (zw ?_);refine zal (a:=[]) h rfl (zw ?_);refine zaa zz0 (zw ?_);refine ⟨⟨(([s],r),if s.hi>m then s.hi else m),h,by dsimp only;rw [hu,up,zy1 c],by dsimp only;split<;>omega,by dsimp only;split<;>omega⟩,(zcr [(900,some 900)] zz44),by simp⟩
   . refine sN ?_
     (refine zas [(0,31)]  ?_;(conv=>whnf);refine dO (zfb l zz0) ?_)
     rw [show up (s::r) m=(m,s::r) by simp [up,c]] at hu;exact yy93
 | cons t a =>
  rw [zy5] at hlen;have hal:(a.length:Int)+1=((t::a).length:Nat):=by simp
  (conv=>whnf);cases b with
  | nil =>
   rw [zy14] at hlen;(conv=>whnf)
   try refine sG ?_
   refine zas [(0,31)] (zw ?_);refine ylg (a:=t::a) (b:=[]) (c:=[]) zz66 rfl rfl ?_;(conv=>whnf);refine ⟨_,_,zfb [] zz4,⟨⟨⟨rfl,rfl⟩,trivial⟩,rfl,rfl,rfl⟩,?_⟩;(conv=>whnf);subst hu;refine zam [(0,some 31)] rfl rfl trivial rfl rfl ⟨⟨rfl,.inl ⟨31,rfl,rfl⟩⟩,trivial⟩
  | cons s r =>
   rw [zy5] at hlen;have hs:=hl s zz66;have hrl:(s::r).length=r.length+1:=rfl;refine sT ?_;refine zaa zz0 (zw ?_);refine zal (a:=t::a) h zz4 (zw ?_);refine sF ?_;by_cases c:s.lo<=m+1
   . refine sT ?_
     refine zaa zz0 (zw ?_);refine zal (a:=t::a) h zz4 (zw ?_);refine zaa zz0 (zw ?_);refine ⟨⟨((t::(a++[s]),r),if s.hi>m then s.hi else m),by rw [h];simp,by dsimp only;rw [hu,up,zy1 c],by dsimp only;split<;>omega,by dsimp only;split<;>omega⟩,(zcr [(900,some 900)] zz44),by simp⟩
   . refine sN ?_
     refine zas [(0,31)] (zw ?_);refine ylg (a:=t::a) (b:=s::r) (c:=[]) zz66 rfl rfl ?_;(conv=>whnf);refine ⟨_,_,zfb (s::r) zz0,⟨⟨⟨rfl,rfl⟩,trivial⟩,rfl,rfl,rfl⟩,?_⟩;(conv=>whnf);rw [show up (s::r) m=(m,s::r) by simp [up,c]] at hu;subst hu;refine zam [(0,some 31)] rfl rfl trivial rfl rfl ⟨⟨rfl,.inl ⟨31,rfl,rfl⟩⟩,trivial⟩
instance:DecidableEq Span:=fun a b=>decidable_of_iff (a.lo=b.lo/\a.hi=b.hi) ⟨fun h=>by cases a;cases b;simp_all,fun h=>by rw [h];simp⟩
end Ser
namespace Ser
def p1 (n:Int):List Span->Int×Int->Int×Int
 | [],p=>p
 | s::r,p=>p1 n r (if s.hi=n-1 then (s.lo,p.2) else if s.lo=n+1 then (p.1,s.hi) else p)
def p2 (n lo hi:Int):List Span->Bool->List Span
 | [],put=>if put then [] else [⟨lo,hi⟩]
 | s::r,put=>if s.hi=n-1\/s.lo=n+1 then p2 n lo hi r put else if put=false/\s.lo>n then ⟨lo,hi⟩::s::p2 n lo hi r true else s::p2 n lo hi r put
end Ser
namespace Rcv
open Srt Jn Ser
def yzc (r:Receiver) (a b c d:HV):List HV:=[i64 r.config.streams,i64 r.config.part,i64 r.config.packet,i64 r.config.paths,i64 r.config.turns,i64 r.config.waiting,i64 r.config.first,i64 r.cum,a,b,c,d]
abbrev xgx (l:List Span):zad:=.live (.row 199 2 (l.map Span.row))
abbrev xhp (l:List zay):zad:=.live (.row 162 12 (l.map zay.row))
abbrev yov (l:List Int):zad:=.live (.row 3 1 (l.map fun n=>[pi n]))
abbrev xis (l:List zcs):zad:=.live (.row 56 4 (l.map zcs.row))
abbrev xho (r:Receiver) (a b c d:Nat):HV:=.agg (yzc r (.own a) (.own b) (.own c) (.own d))
abbrev yzb (r:Receiver) (a b c d:Nat) (L:List (Nat×zad)):List (Nat×zad):=(a,xgx r.zau)::(b,xhp r.pieces)::(c,yov r.zbp)::(d,xis r.log)::L
abbrev tkH (r:Receiver):List (Nat×zad):=(1000,.live (.cells 225 (yzc r (.own 1001) (.own 1002) (.own 1003) (.own 1004))))::yzb r 1001 1002 1003 1004 []
abbrev tkD (r:Receiver):List (Nat×zad):=(1000,.live (.cells 225 (yzc r (.own 0) (.own 1) (.own 2) (.own 3))))::yzb r 0 1 2 3 [(1001,.dead),(1002,.dead),(1003,.dead),(1004,.dead)]
def ylu (c:Config):Receiver:=⟨c,c.first-1,[],[],List.replicate (max c.streams 0).toNat 0,[]⟩
theorem zpb (c:Config) (h1:-9223372036854775808<c.first) (h2:c.first<=9223372036854775807) (h3:c.streams<=1099511627776) :
 zao Tryz.prog 110 [c.hv] zae (xho (ylu c) 0 1 2 3) (lk .free (yzb (ylu c) 0 1 2 3 [])):=by
 refine zan mixed Tryz.func110 zz5 [] (fun _=>.inl rfl) ?_;(conv=>whnf);refine sF ?_;refine zaa (c:=(0<=(if 0>c.streams then 0 else c.streams:Int)/\(if 0>c.streams then 0 else c.streams:Int)=(if 0>c.streams then 0 else c.streams:Int)/\(if 0>c.streams then 0 else c.streams:Int)*(8:Nat)<=140737488355328)) (by split<;>omega) (zw ?_);refine sD ?_;refine zam [(0,none),(1,none),(2,some 10),(3,none)] rfl rfl trivial rfl rfl ⟨⟨rfl,.inr ⟨rfl,rfl⟩⟩,⟨rfl,.inr ⟨rfl,rfl⟩⟩,⟨rfl,.inl ⟨10,rfl,?_⟩⟩,⟨rfl,.inr ⟨rfl,rfl⟩⟩,trivial⟩;refine zaq ?_;rw [show (ylu c).zbp=List.replicate (max c.streams 0).toNat 0 from rfl,zy146];have:(max c.streams 0).toNat=(if 0>c.streams then 0 else c.streams:Int).toNat:=by split<;>omega
 rw [this];rfl
structure Fit (r:Receiver):Prop where
 zau:r.zau.length<2 ^ 36
 pieces:r.pieces.length<2 ^ 22
 bytes:tot r.pieces<2 ^ 22
 zbp:r.zbp.length<2 ^ 36
 log:r.log.length<2 ^ 36
 data:∀ a∈r.log,a.data.length<2 ^ 40
abbrev xff:List HV:=[i64 0,i64 0,i64 0,i64 0,i64 0,i64 0,i64 0,i64 0,zgk,zgk,zgk,zgk]
theorem zdb (r:Receiver) (hr:Fit r):zao Tryz.prog 111 [r.hv] zae (xho r 0 1 2 3) (lk .free (yzb r 0 1 2 3 [])):=by
 obtain ⟨h1,h2,h3,h4,h5,h6⟩:=hr;refine zan mixed Tryz.func111 zz5 [] (fun _=>.inl rfl) ?_;(conv=>whnf)
 (refine zas [(0,11)]  ?_;(conv=>whnf);refine dO (Cl.zfb r.zau zz0) ?_)
 (refine zas [(0,14)]  ?_;(conv=>whnf);refine dO (Cl.zpp r.zbp zz0) ?_)
 refine sD ?_;refine ⟨{x:List zay×List zay // r.pieces=x.1++x.2},fun | ⟨(A,B),_⟩=>hs 56 [(1,.ptr 1 0),(2,.ptr 2 0),(3,.own 900),(18,pieces r.pieces),(19,i64 r.pieces.length),(20,i64 A.length)] [(1,.live (.cells 37 (yzc r (.own 11) (pieces r.pieces) (.own 14) (.p (.sl 4 (r.log.map zcs.row)))))),(2,.live (.cells 37 xff)),(11,xgx r.zau),(14,yov r.zbp),(900,xhp A)],fun x=>x.1.2.length,⟨([],r.pieces),rfl⟩,?_,?_⟩
 . exact (zdx [(1,some 1),(2,some 2),(11,some 11),(14,some 14),(900,none)])
 rintro ⟨⟨A,B⟩,h⟩;dsimp only at h;have hl:r.pieces.length=A.length+B.length:=by rw [h];simp
 (conv=>whnf);cases B with
 | cons p B =>
  have hp:p.chunk.data.length<=tot r.pieces:=xez zz66;rw [zy5] at hl;refine sT ?_;refine zal h rfl (zw ?_)
  (refine zas [(0,27)]  ?_;(conv=>whnf);refine dO (Cl.zct p.chunk.data zz0) ?_)
  refine zaa (c:=((A.map zay.row).length+1)*136<=140737488355328) zz3 (zw ?_);refine sF ?_;refine ⟨⟨(A++[p],B),by rw [h];simp⟩,(zcr [(1,some 1),(2,some 2),(11,some 11),(14,some 14),(900,some 33)] (by repeat' (first | exact z0 | refine z1 ?_ | refine ⟨?_,?_⟩ | ((exact zca (f:=zay.row) rfl rfl)) | exact z2))),by simp⟩
 | nil =>
  rw [zy14] at hl;rw [zy8] at h;refine sN ?_;refine ⟨{x:List zcs×List zcs // r.log=x.1++x.2},fun | ⟨(A,B),_⟩=>hs 56 [(1,.ptr 1 0),(2,.ptr 2 0),(3,.own 900),(6,.own 901),(36,.p (.sl 4 (r.log.map zcs.row))),(37,i64 r.log.length),(38,i64 A.length)] [(1,.live (.cells 37 (yzc r (.own 11) (pieces r.pieces) (.own 14) (.p (.sl 4 (r.log.map zcs.row)))))),(2,.live (.cells 37 xff)),(11,xgx r.zau),(14,yov r.zbp),(900,xhp r.pieces),(901,xis A)],fun x=>x.1.2.length,⟨([],r.log),rfl⟩,?_,?_⟩
  . exact (zcr [(1,some 1),(2,some 2),(11,some 11),(14,some 14),(900,some 900),(901,none)] zz48)
  rintro ⟨⟨A,B⟩,h⟩;dsimp only at h;have hl:r.log.length=A.length+B.length:=by rw [h];simp
  (conv=>whnf);cases B with
  | cons p B =>
   have hp:=h6 p zz66;rw [zy5] at hl;refine sT ?_;refine zal h rfl (zw ?_)
   (refine zas [(0,44)]  ?_;(conv=>whnf);refine dO (Cl.zct p.data zz0) ?_)
   refine zaa (c:=((A.map zcs.row).length+1)*48<=140737488355328) zz3 (zw ?_);refine sF ?_;refine ⟨⟨(A++[p],B),by rw [h];simp⟩,(zcr [(1,some 1),(2,some 2),(11,some 11),(14,some 14),(900,some 900),(901,some 49)] (by repeat' (first | exact z0 | refine z1 ?_ | refine ⟨?_,?_⟩ | ((exact zca (f:=zcs.row) rfl rfl)) | exact z2))),by simp⟩
  | nil =>
   rw [zy14] at hl;rw [zy8] at h;refine sN ?_;refine zam [(0,some 11),(1,some 900),(2,some 14),(3,some 901)] rfl rfl trivial rfl rfl ⟨⟨rfl,.inl ⟨11,rfl,rfl⟩⟩,⟨rfl,.inl ⟨900,rfl,rfl⟩⟩,⟨rfl,.inl ⟨14,rfl,rfl⟩⟩,⟨rfl,.inl ⟨901,rfl,?_⟩⟩,trivial⟩;exact zaq (by rw [h])
theorem yfs (r:Receiver) (h2:r.pieces.length<2 ^ 40) (h3:tot r.pieces<2 ^ 60):zao Tryz.prog 179 [r.hv] zae (i64 (tot r.pieces:Nat)) zae:=by
 refine zap mixed Tryz.func179 zz5 ?_;(conv=>whnf);refine ⟨{x:List zay×List zay // r.pieces=x.1++x.2},fun | ⟨(A,B),_⟩=>hs 21 [(3,i64 (tot A:Nat)),(7,pieces r.pieces),(8,i64 r.pieces.length),(9,i64 A.length)] [],fun x=>x.1.2.length,⟨([],r.pieces),rfl⟩,?_,?_⟩
 . exact (zdx [])
 rintro ⟨⟨A,B⟩,h⟩;dsimp only at h;have hl:r.pieces.length=A.length+B.length:=by rw [h];simp
 have ht:tot r.pieces=tot A+tot B:=by rw [h,zvp]
 (conv=>whnf);cases B with
 | cons p B =>
  rw [zy5] at hl;rw [zev] at ht;refine sT ?_;refine zal h rfl (zw ?_);refine sF ?_;refine sF ?_;exact ⟨⟨(A++[p],B),by rw [h];simp⟩,(zcr [] (by repeat' (first | exact z0 | refine z1 ?_ | refine ⟨?_,?_⟩ | ((exact zbj (by rw [zvp,zev];simp [tot]))) | exact z2))),by simp⟩
 | nil =>
  rw [zy14] at hl;rw [zy8] at h;refine sN ?_;rw [h]
def zeh (s m:Int) (o:Bool) (p:zay):Bool:=decide (p.chunk.stream=s)&&decide (p.chunk.mid=m)&&(p.chunk.ordered==o)
theorem yvg (p:zay) (s m:Int) (o:Bool):zao Tryz.prog 199 [.rp p.row,i64 s,i64 m,zbk o] zae (zbk (zeh s m o p)) zae:=by
 refine zap mixed Tryz.func199 zz5 ?_;(conv=>whnf);by_cases c1:p.chunk.stream=s
 . refine zai zz51 ?_;conv=>whnf
   by_cases c2:p.chunk.mid=m
   . refine zai zz45 ?_;conv=>whnf
     simp [zeh,c1,c2]
   . refine zag zz45 (zw ?_)
     simp [zeh,c2]
 . refine zag zz51 (zw ?_)
   simp [zeh,c1]
theorem ypc (s m:Int) (o:Bool) (p:zay):zao Tryz.prog 211 [p.hv,.rp [pi s],.rp [pi m],.rp [pb o]] zae (zbk (zeh s m o p)) zae:=by
 refine zap mixed Tryz.func211 zz5 ?_;(conv=>whnf)
 ((refine zbm ?_;(conv=>whnf);refine ⟨_,yvg p s m o,rfl,?_⟩;conv=>whnf);try refine sG ?_)
def zld (r:Receiver) (s m:Int) (o:Bool):Receiver:={r with pieces:=r.pieces.filter fun p=>!zeh s m o p}
theorem zve (r:Receiver) (s m:Int) (o:Bool) (h2:r.pieces.length<2 ^ 38) :
 zao Tryz.prog 201 [.ptr 1000 0,i64 s,i64 m,zbk o] (lk .free (tkH r)) (.tup []) (lk .free (tkD (zld r s m o))):=by
 refine zan mixed Tryz.func201 zz5 [1000,1001,1002,1003,1004] zbi ?_;(conv=>whnf)
 (refine zac [false,true] [(1000,1002)] [(0,15)] ?_;(conv=>whnf);refine dG (Cl.ynp (fun p=>ypc s m o p) r.pieces zz0) ?_)
 (exact zby (pK5 [(0,some 1001),(1,some 15),(2,some 1003),(3,some 1004)]))
def dlv (r:Receiver) (s m:Int) (o:Bool):Receiver×Bool:=match join (r.pieces.filter (zeh s m o)) with
 | none=>(r,false)
 | some b=>({zld r s m o with log:=r.log++[⟨s,m,o,b⟩]},true)
theorem zmo (f:zay->Bool):∀ l:List zay,tot (l.filter f)<=tot l
 | []=>zy22 _
 | p::l=>by
  have:=zmo f l;rw [zy58];split
  . rw [zev,zev];omega
  . rw [zev];omega
theorem zlv (r:Receiver) (s m:Int) (o:Bool) (h2:r.pieces.length<2 ^ 37) (h3:tot r.pieces<2 ^ 40) (h4:r.log.length<2 ^ 38) :
 zao Tryz.prog 183 [.ptr 1000 0,i64 s,i64 m,zbk o] (lk .free (tkH r)) (zbk (dlv r s m o).2) (lk .free (tkD (dlv r s m o).1)):=by
 refine zan mixed Tryz.func183 zz5 [1000,1001,1002,1003,1004] zbi ?_;(conv=>whnf);refine ⟨{x:List zay×List zay // r.pieces=x.1++x.2},fun | ⟨(A,B),_⟩=>hsP [1000,1001,1002,1003,1004] 61 [(0,.ptr 1000 0),(1,i64 s),(2,i64 m),(3,zbk o),(8,zbk false),(9,.own 900),(18,.own 1002),(19,i64 r.pieces.length),(20,i64 A.length)] (tkH r++[(900,xhp (A.filter (zeh s m o)))]),fun x=>x.1.2.length,⟨([],r.pieces),rfl⟩,?_,?_⟩
 . exact (zbu (pK5 [(900,none)]) zz2)
 rintro ⟨⟨A,B⟩,h⟩;dsimp only at h;have hl:r.pieces.length=A.length+B.length:=by rw [h];simp
 have hf:=zy66 (zeh s m o) A;(conv=>whnf);cases B with
 | cons p B =>
  rw [zy5] at hl;refine sT ?_;refine sO ?_;refine zal h rfl (zw ?_)
  (refine cL ?_;refine dL (yvg p s m o) ?_)
  cases hp:zeh s m o p with
  | true =>
   conv=>whnf
   try refine sG ?_
   refine zaa (c:=(((A.filter (zeh s m o)).map zay.row).length+1)*136<=140737488355328) zz3 (zw ?_)
   try refine sG ?_
   refine sF ?_;exact ⟨⟨(A++[p],B),by rw [h];simp⟩,(zbu (pK5 [(900,some 31)]) (by repeat' (first | exact z0 | refine z1 ?_ | refine ⟨?_,?_⟩ | ((exact zca (f:=zay.row) (by rw [zy53,zy58,zy1 hp];rfl) rfl)) | exact z2))),by simp⟩
  | false =>
   conv=>whnf
   try refine sG ?_
   refine sF ?_;exact ⟨⟨(A++[p],B),by rw [h];simp⟩,(zbu (pK5 [(900,some 900)]) (by repeat' (first | exact z0 | refine z1 ?_ | refine ⟨?_,?_⟩ | ((exact zaq (by rw [zy53,zy58,zy0 (by rw [hp];decide)];simp))) | exact z2))),by simp⟩
 | nil =>
  rw [zy14] at hl;rw [zy8] at h;have ht:=zmo (zeh s m o) A;have hA:tot A=tot r.pieces:=by rw [h]
  have hd:dlv r s m o=match join (A.filter (zeh s m o)) with
   | none=>(r,false)
   | some b=>({zld r s m o with log:=r.log++[⟨s,m,o,b⟩]},true):=by rw [dlv,h]
  have ps:=yvb (A.filter (zeh s m o)) zz0 zz0;refine sN ?_;cases hj:join (A.filter (zeh s m o)) with
  | none =>
   rw [hj] at hd ps;rw [hd]
   (refine zas [(0,35)]  ?_;(conv=>whnf);refine dO ps ?_)
   exact yy76
  | some b =>
   rw [hj] at hd ps;rw [hd]
   (refine zas [(0,35)]  ?_;(conv=>whnf);refine dO ps ?_)
   refine zaa (c:=((r.log.map zcs.row).length+1)*48<=140737488355328) zz3 (zw ?_)
   try refine sG ?_
   (refine zac [] [(1000,1000),(1001,1001),(1002,1002),(1003,1003),(1004,52)] [(0,910),(1,911),(2,912),(3,913)] ?_;(conv=>whnf);refine dG (zve {r with log:=r.log++[⟨s,m,o,b⟩]} s m o zz59) ?_ ⟨rfl,rfl,rfl,⟨zz1,⟨zz1,⟨zz1,⟨zz1,⟨⟨rfl,_,rfl,.inl ⟨rfl,zca (f:=zcs.row) (x:=⟨s,m,o,b⟩) rfl rfl⟩⟩,trivial⟩⟩⟩⟩⟩,⟨⟨rfl,rfl⟩,⟨⟨rfl,rfl⟩,⟨⟨rfl,rfl⟩,⟨⟨rfl,rfl⟩,trivial⟩⟩⟩⟩,rfl,rfl,rfl⟩)
   exact yy56
theorem ylp {l:List zay} {b:List UInt8} (h:join l=some b):0<l.length:=by
 unfold join at h;split at h
 . cases h
 . rename_i c;exact zy32.2 c
theorem zof {r:Receiver} {s m:Int} {o:Bool} (h:(dlv r s m o).2=true):(dlv r s m o).1.pieces.length<r.pieces.length:=by
 unfold dlv at h ⊢;split
 . rename_i hj;rw [hj] at h;cases h
 . rename_i b hj
   have h1:=ylp hj;have h2:(r.pieces.filter fun p=>!zeh s m o p).length+(r.pieces.filter (zeh s m o)).length=r.pieces.length:=by
    induction r.pieces with
    | nil=>rfl
    | cons p l ih =>
     rw [zy58,zy58];cases zeh s m o p<;>simp<;>omega
   show (r.pieces.filter fun p=>!zeh s m o p).length<_;omega
theorem zlc (r:Receiver) (s m:Int) (o:Bool):(dlv r s m o).1.zbp=r.zbp/\(dlv r s m o).1.cum=r.cum/\(dlv r s m o).1.zau=r.zau/\(dlv r s m o).1.config=r.config/\(dlv r s m o).1.pieces.length<=r.pieces.length/\tot (dlv r s m o).1.pieces<=tot r.pieces /\
 (dlv r s m o).1.log.length+(dlv r s m o).1.pieces.length<=r.log.length+r.pieces.length:=by
 have hl:=fun h=>zof (r:=r) (s:=s) (m:=m) (o:=o) h
 unfold dlv at hl ⊢;split
 . exact ⟨rfl,rfl,rfl,rfl,zy22 _,zy22 _,zy22 _⟩
 . rename_i b hj
   rw [hj] at hl;have h1:=hl rfl;dsimp only [zld] at h1 ⊢;refine ⟨rfl,rfl,rfl,rfl,zy66 _ _,zmo _ _,?_⟩;simp only [zy6,zy57];omega
def ygn (r:Receiver) (k:Nat):Receiver:={r with zbp:=r.zbp.set k (r.zbp[k]?.getD 0+1)}
def zvq:Nat->Receiver->Nat->Receiver
 | 0,r,_=>r
 | n+1,r,k=>if (dlv r k (tag (r.zbp[k]?.getD 0)) true).2 then zvq n (ygn (dlv r k (tag (r.zbp[k]?.getD 0)) true).1 k) k else (dlv r k (tag (r.zbp[k]?.getD 0)) true).1
def turns (r:Receiver) (k:Nat):Receiver:=zvq (r.pieces.length+1) r k
theorem zhm (r:Receiver) (k:Nat):turns r k=if (dlv r k (tag (r.zbp[k]?.getD 0)) true).2 then turns (ygn (dlv r k (tag (r.zbp[k]?.getD 0)) true).1 k) k else (dlv r k (tag (r.zbp[k]?.getD 0)) true).1:=by
 have gen:∀ (n m:Nat) (r:Receiver),r.pieces.length<n->r.pieces.length<m->zvq n r k=zvq m r k:=by
  intro n
  induction n with
  | zero=>intro m r h;omega
  | succ n ih =>
   intro m r h1 h2;cases m with
   | zero=>omega
   | succ m =>
    rw [zvq,zvq];split
    . rename_i hd
      have:=zof hd;exact ih m _ (by show (dlv r k _ true).1.pieces.length<n;omega) (by show (dlv r k _ true).1.pieces.length<m;omega)
    . rfl
 conv=>lhs;rw [turns,zvq]
 split
 . rename_i hd
   have:=zof hd;exact gen _ _ _ (by show (dlv r k _ true).1.pieces.length<_;omega) (by show (dlv r k _ true).1.pieces.length<_;exact zy158 _)
 . rfl
structure xfp (r:Receiver) (k:Nat):Prop where
 pieces:r.pieces.length<2 ^ 22
 bytes:tot r.pieces<2 ^ 22
 log:r.log.length+r.pieces.length<2 ^ 37
 has:k<r.zbp.length
 lo:-(2 ^ 60)<r.zbp[k]?.getD 0
 hi:r.zbp[k]?.getD 0+r.pieces.length<2 ^ 60
theorem yvn (r:Receiver) (k:Nat) (hf:xfp r k) :
 zao Tryz.prog 182 [.ptr 1000 0,i64 k] (lk .free (tkH r)) (.tup []) (lk .free (tkD (turns r k))):=by
 generalize hT:turns r k=T;refine zan mixed Tryz.func182 zz5 [1000,1001,1002,1003,1004] zbi ?_;(conv=>whnf);refine ⟨{x:Receiver // xfp x k/\turns x k=T},fun | ⟨x,_⟩=>hsP [1000,1001,1002,1003,1004] 26 [(0,.ptr 1000 0),(1,i64 k)] ((1000,.live (.cells 225 (yzc x (.own 900) (.own 901) (.own 902) (.own 903))))::yzb x 900 901 902 903 [(1001,.dead),(1002,.dead),(1003,.dead),(1004,.dead)]),fun x=>x.1.pieces.length,⟨r,hf,hT⟩,?_,?_⟩
 . exact (zcx (pK5 [(900,some 1001),(901,some 1002),(902,some 1003),(903,some 1004)]))
 rintro ⟨x,⟨h1,h2,h3,h4,h5,h6⟩,he⟩;(conv=>whnf);refine sO ?_;refine zdk k rfl h4 (zw ?_);have hg:x.zbp[k]?.getD 0=x.zbp[k]:=by simp [h4]
 (refine cL ?_;refine dL (zcv _) ?_)
 have hstep:=zhm x k;rw [he,hg] at hstep;rw [hg] at h5 h6;obtain ⟨k1,k2,k3,k4,k5,k6,k7⟩:=zlc x k (tag x.zbp[k]) true;have hless:(dlv x k (tag x.zbp[k]) true).2=true->(dlv x k (tag x.zbp[k]) true).1.pieces.length<x.pieces.length:=fun h=>zof h
 (refine zac [] [(1000,1000),(1001,900),(1002,901),(1003,902),(1004,903)] [(0,910),(1,911),(2,912),(3,913)] ?_;(conv=>whnf);refine dG (zlv x k (tag x.zbp[k]) true zz0 zz0 zz0) ?_)
 generalize hD:dlv x k (tag x.zbp[k]) true=D at *
 obtain ⟨y,ok⟩:=D;dsimp only at k1 k2 k3 k4 k5 k6 k7 hless hstep;have h4':k<y.zbp.length:=by rw [k1];exact h4
 have hyk:y.zbp[k]=x.zbp[k]:=by simp only [k1]
 cases ok with
 | false =>
  have hstep:T=y:=hstep;subst hstep;(conv=>whnf)
  try refine sG ?_
  exact yy56
 | true =>
  have hless:=hless rfl;(conv=>whnf)
  try refine sG ?_
  refine sO ?_;refine zdk k rfl h4' (zw ?_);rw [hyk];refine sF ?_;refine sO ?_;refine zdk k rfl h4' (zw ?_);have hb:(ygn y k).zbp[k]?.getD 0=x.zbp[k]+1:=by
   show (y.zbp.set k (y.zbp[k]?.getD 0+1))[k]?.getD 0=_;rw [zy27 h4',zy3 h4',hyk];rfl
  refine ⟨⟨ygn y k,⟨by show y.pieces.length<_;omega,by show tot y.pieces<_;omega,by show y.log.length+y.pieces.length<_;omega,by show k<(y.zbp.set k _).length;rw [zy30];exact h4',by rw [hb];omega,by rw [hb];show _+(y.pieces.length:Int)<_;omega⟩,?_⟩,(zbu (pK5 [(900,some 910),(901,some 911),(902,some 912),(903,some 913)]) (by repeat' (first | exact z0 | refine z1 ?_ | refine ⟨?_,?_⟩ | ((refine zaq ?_;show _=(y.zbp.set k (y.zbp[k]?.getD 0+1)).map _;rw [zy107,zy3 h4',hyk];rfl)) | exact z2))),by show y.pieces.length<x.pieces.length;omega⟩;rw [hstep];rfl
end Rcv
namespace Rcv
open Srt Jn Ser
theorem zvl (r:Receiver) (k:Nat) (z:Int) (hz:z=k) (hf:xfp r k) :
 zao Tryz.prog 182 [.ptr 1000 0,i64 z] (lk .free (tkH r)) (.tup []) (lk .free (tkD (turns r k))):=by
 subst hz;exact yvn r k hf
structure ybs (r:Receiver) (c:Chunk) (n:Int):Prop where
 kind:c.kind=1
 low:0<=c.stream
 high:c.stream<r.zbp.length
 zfj:r.cum<n
 fresh:has r.zau n=false
 room:n=r.cum+1\/(tot r.pieces:Int)+c.data.length<=400
def put (r:Receiver) (c:Chunk):Receiver :=
 {r with pieces:=r.pieces++[⟨zdf r.cum c.tag,c⟩],cum:=(up (add r.zau (zdf r.cum c.tag)) r.cum).1,zau:=(up (add r.zau (zdf r.cum c.tag)) r.cum).2}
instance xhr (r:Receiver) (c:Chunk) (n:Int):Decidable (ybs r c n) :=
 decidable_of_iff (c.kind=1/\0<=c.stream/\c.stream<r.zbp.length/\r.cum<n/\has r.zau n=false/\(n=r.cum+1\/(tot r.pieces:Int)+c.data.length<=400)) ⟨fun ⟨a,b,d,e,f,g⟩=>⟨a,b,d,e,f,g⟩,fun ⟨a,b,d,e,f,g⟩=>⟨a,b,d,e,f,g⟩⟩
def data (r:Receiver) (c:Chunk):Receiver:=if ybs r c (zdf r.cum c.tag) then (if c.ordered then turns (put r c) c.stream.toNat else (dlv (put r c) c.stream c.mid false).1) else r
structure xht (r:Receiver) (c:Chunk):Prop where
 fit:Fit r
 zky:zky r.zau
 hi:∀ s∈r.zau,s.hi<=2 ^ 39
 cum1:-(2 ^ 39)<=r.cum
 cum2:r.cum<=2 ^ 39
 zbp:∀ t∈r.zbp,-(2 ^ 59)<t/\t<2 ^ 59
 data:c.data.length<2 ^ 21
 more:tot r.pieces<2 ^ 21
 many:r.pieces.length<2 ^ 21
theorem xae {l:List Span} {n M:Int} (h:Ser.zky l) (h1:-9223372036854775808<=n) (h2:n<=9223372036854775807) (hl:∀ s∈l,s.hi<=M) (hn:n<=M):∀ s∈add l n,s.hi<=M:=by
 obtain ⟨r1,r2⟩:=yjj h h1 h2;intro s hs;have h3:=(ziu r1 s hs).1;have h4:has (add l n) s.hi=true:=yhm.2 ⟨s,hs,h3,zy99 _⟩;rw [r2,zy105] at h4;rcases h4 with h4 | h4
 . obtain ⟨t,ht,_,h5⟩:=yhm.1 h4
   have:=hl t ht;omega
 . have:s.hi=n:=by simpa using h4
   omega
theorem yji (l:List Span) (n:Int):(add l n).length<=l.length+1:=by
 unfold add;split
 . omega
 . have h1:(zws n (below l n)).1.length<=(below l n).length:=by
    unfold zws;split
    . split
      . simp
      . exact zy22 _
    . exact zy22 _
   have h2:(zsj n (zfj l n)).2.length<=(zfj l n).length:=by
    cases zfj l n with
    | nil=>exact zy22 _
    | cons t r=>simp only [zsj];split<;>simp
   have h3:l.length=(below l n).length+(zfj l n).length:=by
    conv=>lhs;rw [split l n]
    exact zy6
   simp only [zy6,zy5];omega
theorem yuy (r:Receiver) (c:Chunk) (hf:xht r c):zao Tryz.prog 152 [r.hv,c.hv] zae (xho (data r c) 0 1 2 3) (lk .free (yzb (data r c) 0 1 2 3 [])):=by
 obtain ⟨h1,h2,h3,h4,h5,h6,h7,h8,h9⟩:=hf;obtain ⟨n1,n2,n3⟩:=zlo (a:=r.cum) (t:=c.tag) zz0 zz0;generalize hD:data r c=D;refine zan mixed Tryz.func152 zz5 [] (fun _=>.inl rfl) ?_;(conv=>whnf)
 (refine zas [(0,910),(1,911),(2,912),(3,913)]  ?_;(conv=>whnf);refine dO (zdb r h1) ?_)
 (refine cL ?_;refine dL (zjv r.cum c.tag) ?_)
 have no:¬ ybs r c (zdf r.cum c.tag)->D=r:=fun h=>by rw [<- hD,data,zy0 h]
 by_cases c1:c.kind=1
 case neg =>
  obtain rfl:=no fun h=>c1 h.1
  refine zai zz51 ?_;conv=>whnf
  exact yy30
 refine zag (by simp [c1]) (zw ?_);by_cases c2:c.stream<0
 . obtain rfl:=no fun h=>by have:=h.2;omega
   refine zai zz45 ?_;conv=>whnf
   exact yy30
 refine zag zz45 (zw ?_);by_cases c3:c.stream>=r.zbp.length
 . obtain rfl:=no fun h=>by have:=h.3;omega
   refine zai (by simpa using c3) (zw ?_);exact yy30
 refine zag (by simpa using c3) (zw ?_);by_cases c4:zdf r.cum c.tag<=r.cum
 . obtain rfl:=no fun h=>by have:=h.4;omega
   refine zai (by simpa using c4) (zw ?_);exact yy30
 refine zag (by simpa using c4) (zw ?_)
 (refine cL ?_;refine dL (ymv r.zau (zdf r.cum c.tag) (by have:=h1.zau;omega)) ?_)
 cases c5:has r.zau (zdf r.cum c.tag) with
 | true =>
  obtain rfl:=no fun h=>by have:=h.5;rw [c5] at this;cases this
  (conv=>whnf);exact yy30
 | false =>
 (conv=>whnf);refine sF ?_;have g1:=h1.zau;have g2:=h1.log;have rest:ybs r c (zdf r.cum c.tag)->D=if c.ordered then turns (put r c) c.stream.toNat else (dlv (put r c) c.stream c.mid false).1:=fun h=>by rw [<- hD,data,zy1 h]
 have xao:tot (put r c).pieces=tot r.pieces+c.data.length:=by show tot (r.pieces++[_])=_;rw [zvp,zev];rfl
 have hpl:(put r c).pieces.length=r.pieces.length+1:=by show (r.pieces++[_]).length=_;simp
 have hadd:=xae (n:=zdf r.cum c.tag) (M:=1099511627776) h2 zz0 zz0 (fun s hs=>by have:=h3 s hs;omega) zz0;have hal:=yji r.zau (zdf r.cum c.tag);by_cases c6:zdf r.cum c.tag=r.cum+1
 case' pos =>
  have ok:ybs r c (zdf r.cum c.tag):=⟨c1,by omega,by omega,by omega,c5,.inl c6⟩
  refine zag (by simpa using c6) ?_;conv=>whnf
  ((refine zbe ?_ ?_;(· kernel_rfl);conv=>whnf);try refine sG ?_)
 case' neg =>
  refine zai (by simpa using c6) (zw ?_)
  (refine cL ?_;refine dL (yfs r zz0 zz0) ?_)
  refine sF ?_;by_cases c7:(tot r.pieces:Int)+c.data.length>400
  case pos =>
   obtain rfl:=no fun h=>by have:=h.6;omega
   refine sD ?_;refine zai (by simpa using c7) (zw ?_);exact yy71
  have ok:ybs r c (zdf r.cum c.tag):=⟨c1,by omega,by omega,by omega,c5,.inr zz0⟩
  refine sD ?_;refine zag (by simpa using c7) (zw ?_)
  try refine sG ?_
 all_goals (
  have rest:=rest ok
  (refine zas [(0,66)]  ?_;(conv=>whnf);refine dO (Cl.zct c.data zz0) ?_)
  refine zaa (c:=((r.pieces.map zay.row).length+1)*136<=140737488355328) zz3 (zw ?_);refine sD ?_
  (refine zas [(0,88)]  ?_;(conv=>whnf);refine dO (yzm r.zau (zdf r.cum c.tag) h2 zz0 zz0 zz0) ?_)
  (refine zas [(0,92)]  ?_;(conv=>whnf);refine dO (yvo (add r.zau (zdf r.cum c.tag)) r.cum hadd zz0 zz0 zz0) ?_)
  refine sD ?_;obtain ⟨k,hk⟩:∃ k:Nat,c.stream=k:=⟨c.stream.toNat,by omega⟩
  have hkl:k<r.zbp.length:=by omega
  have htk:(put r c).zbp[k]?.getD 0=r.zbp[k]:=by show r.zbp[k]?.getD 0=_;rw [zy3 hkl];rfl
  have htb:=h6 _ (zy83 hkl);refine zah (fun ho=>?_) (fun ho=>?_)
  . rw [zy1 ho,show c.stream.toNat=k by omega] at rest
    subst rest;(conv=>whnf)
    (refine zac [] [(1000,10),(1001,92),(1002,78),(1003,912),(1004,913)] [(0,920),(1,921),(2,922),(3,923)] ?_;(conv=>whnf);refine dG (zvl (put r c) k _ hk ⟨by omega,by omega,by show r.log.length+_<_;omega,hkl,by rw [htk];omega,by rw [htk];omega⟩) ?_ ⟨rfl,rfl,rfl,⟨zz1,⟨zz1,⟨⟨rfl,_,rfl,.inl ⟨rfl,zca (f:=zay.row) (x:=⟨zdf r.cum c.tag,c⟩) rfl rfl⟩⟩,⟨zz1,⟨zz1,trivial⟩⟩⟩⟩⟩,⟨⟨rfl,rfl⟩,⟨⟨rfl,rfl⟩,⟨⟨rfl,rfl⟩,⟨⟨rfl,rfl⟩,trivial⟩⟩⟩⟩,rfl,rfl,rfl⟩)
    (exact zby [(0,some 920),(1,some 921),(2,some 922),(3,some 923)])
  . rw [zy0 (by rw [ho];decide)] at rest
    subst rest;(conv=>whnf)
    (refine zac [] [(1000,10),(1001,92),(1002,78),(1003,912),(1004,913)] [(0,920),(1,921),(2,922),(3,923)] ?_;(conv=>whnf);refine dG (zlv (put r c) c.stream c.mid false zz0 zz0 (by show r.log.length<_;omega)) ?_ ⟨rfl,rfl,rfl,⟨zz1,⟨zz1,⟨⟨rfl,_,rfl,.inl ⟨rfl,zca (f:=zay.row) (x:=⟨zdf r.cum c.tag,c⟩) rfl rfl⟩⟩,⟨zz1,⟨zz1,trivial⟩⟩⟩⟩⟩,⟨⟨rfl,rfl⟩,⟨⟨rfl,rfl⟩,⟨⟨rfl,rfl⟩,⟨⟨rfl,rfl⟩,trivial⟩⟩⟩⟩,rfl,rfl,rfl⟩)
    (exact zby [(0,some 920),(1,some 921),(2,some 922),(3,some 923)]))
def shift (c:Int) (s:Span):Span:=⟨s.lo-c,s.hi-c⟩
def zmv (r:Receiver):Chunk:=⟨2,tag r.cum,0,0,0,false,false,[],(r.zau.take 6).map (shift r.cum),(if 0>400-(tot r.pieces:Int) then 0 else 400-(tot r.pieces:Int)),[]⟩
theorem ypt {α:Type} (A:List α) (x:α) (f:α->α):((A++[x]).take 6).map f=if A.length<6 then (A.take 6).map f++[f x] else (A.take 6).map f:=by
 split
 . rename_i h
   rw [zy37 (by simp;omega),zy37 (by omega)];simp
 . rename_i h
   rw [zy72 (by omega)]
abbrev xhc (r:Receiver) (v:HV):List HV:=[i64 2,i64 (zmv r).tag,i64 0,i64 0,i64 0,zbk false,zbk false,zgk,v,i64 (zmv r).room,zgk]
theorem yvh (r:Receiver) (h1:r.zau.length<2 ^ 40) (h2:r.pieces.length<2 ^ 40) (h3:tot r.pieces<2 ^ 60) (hc:-(2 ^ 60)<=r.cum) (hc2:r.cum<=2 ^ 60) (hsp:∀ s∈r.zau,-(2 ^ 61)<=s.lo/\s.lo<=2 ^ 61/\-(2 ^ 61)<=s.hi/\s.hi<=2 ^ 61) :
 zao Tryz.prog 154 [r.hv] zae (.agg (xhc r (.own 0))) (lk .free [(0,xgx (zmv r).zau)]):=by
 refine zan mixed Tryz.func154 zz5 [] (fun _=>.inl rfl) ?_;(conv=>whnf)
 (refine cL ?_;refine dL (zcv r.cum) ?_)
 (refine cL ?_;refine dL (yfs r zz0 zz0) ?_)
 refine sF ?_;refine sD ?_;refine ⟨{x:List Span×List Span // r.zau=x.1++x.2},fun | ⟨(A,B),_⟩=>hs 43 [(1,.ptr 1 0),(2,.ptr 2 0),(3,.ptr 3 0),(15,zau r.zau),(16,i64 r.zau.length),(17,i64 A.length)] [(1,.live (.cells 37 (yzc r (zau r.zau) (pieces r.pieces) (.p (.sl 1 (r.zbp.map fun n=>[pi n]))) (.p (.sl 4 (r.log.map zcs.row)))))),(2,.live (.cells 61 [i64 0,i64 0,i64 0,i64 0,i64 0,zbk false,zbk false,zgk,zgk,i64 0,zgk])),(3,.live (.cells 61 (xhc r (.own 900)))),(900,xgx ((A.take 6).map (shift r.cum)))],fun x=>x.1.2.length,⟨([],r.zau),rfl⟩,?_,?_⟩
 . exact (zdx [(1,some 1),(2,some 2),(3,some 3),(900,none)])
 rintro ⟨⟨A,B⟩,h⟩;dsimp only at h;have hl:r.zau.length=A.length+B.length:=by rw [h];simp
 (conv=>whnf);cases B with
 | cons p B =>
  have hp:=hsp p zz66;rw [zy5] at hl;have hq:((A.take 6).map (shift r.cum)).length=min 6 A.length:=by simp
  refine sT ?_;refine zal h rfl (zw ?_);have hsn:=ypt A p (shift r.cum);by_cases c:A.length<6
  . rw [zy1 c] at hsn
    refine sT ?_;refine sF ?_;refine sF ?_;refine zaa (c:=((((A.take 6).map (shift r.cum)).map Span.row).length+1)*16<=140737488355328) zz3 (zw ?_)
    try refine sG ?_
    refine sF ?_;refine ⟨⟨(A++[p],B),by rw [h];simp⟩,(zcr [(1,some 1),(2,some 2),(3,some 3),(900,some 39)] (by repeat' (first | exact z0 | refine z1 ?_ | refine ⟨?_,?_⟩ | ((exact zca (f:=Span.row) hsn rfl)) | exact z2))),by simp⟩
  . rw [zy0 c] at hsn
    refine sN ?_;refine sF ?_;refine ⟨⟨(A++[p],B),by rw [h];simp⟩,(zcr [(1,some 1),(2,some 2),(3,some 3),(900,some 900)] (by repeat' (first | exact z0 | refine z1 ?_ | refine ⟨?_,?_⟩ | ((exact zaq (by rw [hsn]))) | exact z2))),by simp⟩
 | nil =>
  rw [zy14] at hl;rw [zy8] at h;refine sN ?_
  (exact zdc [(0,some 900)] (by repeat' (first | exact z0 | refine z1 ?_ | refine ⟨?_,?_⟩ | ((exact zaq (by rw [<- h];rfl))) | exact z2)))
end Rcv
end Go.HL
