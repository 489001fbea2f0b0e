/- Walks, contracts and laws of the law's functions: part 4. No condition. -/
import Derived.Test.YticmofoeecjnhaaGreatQAc
open Go.Proofs
set_option maxHeartbeats 32000000
set_option maxRecDepth 100000
set_option linter.unusedSimpArgs false
theorem yy6 {P:Prop} (h:P:=by
 cases d3:old u.clock x.came x.life with
 | true =>
  (conv=>whnf);refine sD ?_
  repeat refine sG ?_
  (refine zac [] [(1000,1000),(1001,900),(1002,901),(1003,902),(1004,903),(1005,904),(1006,905),(1007,1007)] [(0,910),(1,911),(2,912),(3,913),(4,914),(5,915)] ?_;(conv=>whnf);refine dG pg ?_)
  refine sF ?_;refine hQ _ _ ?_;conv=>whnf
  rw [zgt,zy1 (by rw [hdue];simp [d1,d2,d3])] at zdk kn kr;exact ⟨⟨((A++[x],B),zcd u x.id),zas k1,zdk,kn,k4.trans kr⟩,(zdf (pK8 ((900,some 910)::(901,some 911)::(902,some 912)::(903,some 913)::(904,some 914)::(905,some 915)::[(34,some 34)]))),by simp⟩
 | false =>
 (conv=>whnf);by_cases d4:x.state=3
 case neg =>
  refine zah ?_ ?_
  . simpa using d4
  (conv=>whnf);refine sD ?_
  repeat refine sG ?_
  refine sF ?_;refine hQ _ _ ?_;conv=>whnf
  rw [zgt,zy0 (by rw [hdue];simp [d1,d2,d3,d4])] at zdk;exact ⟨⟨((A++[x],B),u),zas k1,zdk,k3,k4⟩,(zdf (pK8 (pJ6 [(34,some 34)]))),by simp⟩
 refine zai ?_ ?_
 . simpa using d4
 (conv=>whnf);by_cases d5:x.tries>0
 case neg =>
  refine zah ?_ ?_
  . simpa using d5
  (conv=>whnf);refine sD ?_
  repeat refine sG ?_
  refine sF ?_;refine hQ _ _ ?_;conv=>whnf
  rw [zgt,zy0 (by rw [hdue];simp [d1,d2,d3,d4,d5])] at zdk;exact ⟨⟨((A++[x],B),u),zas k1,zdk,k3,k4⟩,(zdf (pK8 (pJ6 [(34,some 34)]))),by simp⟩
 refine zai ?_ ?_
 . simpa using d5
 (conv=>whnf);refine sD ?_;by_cases d6:x.times>x.tries
 case neg =>
  refine zah ?_ ?_
  . simpa using d6
  conv=>whnf
  repeat refine sG ?_
  refine sF ?_;refine hQ _ _ ?_;conv=>whnf
  rw [zgt,zy0 (by rw [hdue];simp [d1,d2,d3,d4,d5,d6])] at zdk;exact ⟨⟨((A++[x],B),u),zas k1,zdk,k3,k4⟩,(zdf (pK8 (pJ6 [(34,some 34)]))),by simp⟩
 refine zai ?_ ?_
 . simpa using d6
 conv=>whnf
 repeat refine sG ?_
 (refine zac [] [(1000,1000),(1001,900),(1002,901),(1003,902),(1004,903),(1005,904),(1006,905),(1007,1007)] [(0,910),(1,911),(2,912),(3,913),(4,914),(5,915)] ?_;(conv=>whnf);refine dG pg ?_)
 refine sF ?_;refine hQ _ _ ?_;conv=>whnf
 rw [zgt,zy1 (by rw [hdue];simp [d1,d2,d3,d4,d5,d6])] at zdk kn kr;exact ⟨⟨((A++[x],B),zcd u x.id),zas k1,zdk,kn,k4.trans kr⟩,(zdf (pK8 ((900,some 910)::(901,some 911)::(902,some 912)::(903,some 913)::(904,some 914)::(905,some 915)::[(34,some 34)]))),by simp⟩):P:=h
theorem yy10 {P:Prop} (h:P:=by
 exact ⟨⟨((A++[x],B),u),zas k1,zdk,k3,k4⟩,(zdf (pK8 (pJ6 [(34,some 34)]))),by simp⟩):P:=h
theorem yy19 {P:Prop} (h:P:=by
 rw [<- hid] at pg;(conv=>whnf)
 repeat refine sG ?_
 (refine zac [] [(1000,1000),(1001,900),(1002,901),(1003,902),(1004,903),(1005,904),(1006,905),(1007,1007)] [(0,910),(1,911),(2,912),(3,913),(4,914),(5,915)] ?_;(conv=>whnf);refine dG pg ?_)
 refine sF ?_;refine hQ _ _ ?_;conv=>whnf
 exact ⟨⟨((A++[m],B),zcd t m.id),zas k1,zdk,kn,k4.trans kr⟩,(zdf (pK8 ((900,some 910)::(901,some 911)::(902,some 912)::(903,some 913)::(904,some 914)::(905,some 915)::[(11,some 11)]))),by simp⟩):P:=h
theorem yy50 {P:Prop} (h:P:=by
 have hz:=zde k1;rw [zy9] at k1;rw [<- k1] at k2;refine sN ?_;refine hQ _ _ ?_;conv=>whnf
 have hu:u=E:=by rw [<- k2,hE2]
 rw [<- hu]
 (exact zcc (pK8 [(0,some 900),(1,some 901),(2,some 902),(3,some 903),(4,some 904),(5,some 905)]))):P:=h
theorem yy61 {P:Prop} (h:P:=by
 rw [zhw,zy0 (by rw [ho];decide)] at zdk;(conv=>whnf)
 repeat refine sG ?_
 refine sF ?_;refine hQ _ _ ?_;conv=>whnf
 exact ⟨⟨((A++[m],B),t),zas k1,zdk,k3,k4⟩,(zdf (pK8 (pJ6 [(11,some 11)]))),by simp⟩):P:=h
theorem yy84 {P:Prop} (h:P:=by
 refine zah ?_ ?_
 . simp [c1]
 (conv=>whnf);refine zai ?_ ?_
 . simp [c2]
 conv=>whnf
 repeat refine sG ?_
 (exact zcc (pK8 [(0,none),(1,none)]))):P:=h
theorem yy103 {P:Prop} (h:P:=by
 refine zai ?_ ?_
 . simp [c1]
 conv=>whnf
 repeat refine sG ?_
 (exact zcc (pK8 [(0,none),(1,none)]))):P:=h
theorem yy41 {P:Prop} (h:P:=by
 refine zah ?_ ?_
 . simpa using d1
 conv=>whnf
 repeat refine sG ?_
 refine sF ?_;exact ⟨⟨(i+1,t,a',b'),by dsimp only;omega,by rw [hst,hno fun h=>d1 h.1],k3,k4,by dsimp only;omega⟩,(zbx (zig [(900,some 900),(901,some 901)]) zz2),by dsimp only;omega⟩):P:=h
theorem yy42 {P:Prop} (h:P:=by
 refine zah ?_ ?_
 . simpa using d2
 conv=>whnf
 repeat refine sG ?_
 refine sF ?_;exact ⟨⟨(i+1,t,a',b'),by dsimp only;omega,by rw [hst,hno fun h=>d2 h.2],k3,k4,by dsimp only;omega⟩,(zbx (zig [(900,some 900),(901,some 901)]) zz2),by dsimp only;omega⟩):P:=h
theorem yy88 {P:Prop} (h:P:=by
 have hin:i=s.out.length:=by omega
 subst hin;refine sN ?_;rw [k2] at hag;subst hag
 (exact zcc (zig [(0,some 900),(1,some 901)]))):P:=h
theorem yy2 {P:Prop} (h:P:=by
 refine zaj hm rfl (zw ?_);refine zau (z:=m.sent+many s m) hWs (zw ?_);refine zaj hm rfl (zw ?_);refine sD ?_;have hm':(zjc s k m).queue[k]?=some {m with mid:=zbt s m}:=by show (s.queue.set k _)[k]?=_;rw [zy17 hkl]
 have hmr:(s.queue.map zae.row)[k]?=some m.row:=by rw [zy13,hm];rfl
 (refine cL ?_;refine dL (zdd s.next) ?_)
 refine zaj hm rfl (zw ?_)
 (refine zac [] [(1000,1000),(1001,1001),(1002,1002),(1003,1003),(1004,1004),(1005,1005),(1006,1006),(1007,1007),(1008,1008)] [] ?_;(conv=>whnf);refine dG (yjf s a k m hm mf) ?_)
 (refine cL ?_;refine dL (zdd (zbt s m)) ?_)
 refine zaj hm' rfl (zw ?_);refine zaj hm' rfl (zw ?_);refine zaj hm' rfl (zw ?_);refine zaj hm' rfl (zw ?_);refine zaj hm' rfl (zw ?_);refine zau (z:=m.sent+many s m) hWs (zw ?_);refine zaa (c:=0<=m.sent/\m.sent<=m.sent+many s m/\m.sent+many s m<=((m.message.data.map zef).length:Int)) ⟨ms,by omega,by rw [zy3];omega⟩ (zw ?_);refine zke (o':=m.sent.toNat) (n':=(many s m).toNat) rfl (show (m.sent+many s m-m.sent).toNat=(many s m).toNat by rw [show m.sent+many s m-m.sent=many s m by omega]) ?_;refine zmo (f:=zef) (l:=m.message.data) (o:=m.sent.toNat) (n:=(many s m).toNat) zz0 ?_;(conv=>whnf)
 (refine zat [(0,150)]  ?_;(conv=>whnf);refine dO (Cl.zdb ((m.message.data.drop m.sent.toNat).take (many s m).toNat) zz4) ?_)
 refine zjn [4,10,18,24,29,33,37] ?_ ?_ ?_
 . kernel_rfl
 . refine ⟨?_,?_,?_,?_,?_,?_,?_,trivial⟩
   all_goals
    refine And.intro trivial ?_;refine And.intro trivial ?_;refine And.intro ?_ trivial;(conv=>whnf);refine And.intro ?_ ?_
    . conv=>whnf
      all_goals first | rfl | exact zaj hm rfl rfl
    refine And.intro ?_ trivial;(conv=>whnf)
    all_goals first | rfl | exact zaj hm' rfl rfl
 (conv=>whnf);refine zaj hm' rfl (zw ?_)
 (refine zat [(0,163)]  ?_;(conv=>whnf);refine dO (zla s.sched {m with mid:=zbt s m} (many s m) (ovr s m) zz0 mf.lo mh) ?_)
 refine sD ?_;refine zaj hm' rfl (zw ?_);refine zaj hm' rfl (zw ?_);refine zaj hm' rfl (zw ?_);refine zaj hm' rfl (zw ?_);refine zaa (c:=((s.out.map zbr.row).length+1)*200<=140737488355328) zz15 (zw ?_);refine sD ?_;refine sR ?_;refine zaj hm' rfl (zw ?_);refine zau (z:=m.sent+many s m) hWs (zw ?_);refine zaj hm' rfl (zw ?_);refine zbu rfl zz43 (zw ?_);refine sR ?_;refine zbu rfl zz43 (zw ?_);refine zbn (z':=(s.out.length:Int)) ?_ ?_
 . show W ((((zjc s k m).out.map zbr.row++[_]).length:Int)-1)=_
   rw [zy4,zy3,show (zjc s k m).out=s.out from rfl,zbg (by simp only [zy8,zy16];omega) (by simp only [zy8,zy16];omega)];simp only [zy8,zy16];omega
 (conv=>whnf);refine zaa zz9 (zw ?_)
 (refine zac [] [(1000,1000),(1001,1001),(1002,163),(1003,199),(1004,1004),(1005,1005),(1006,1006),(1007,1007),(1008,1008)] [(0,920)] ?_;(conv=>whnf);refine dG (zpb (s2 s k m) a s.out.length (x0 s m) w zz80 hw zz0) ?_ ⟨rfl,rfl,rfl,⟨zz1,⟨⟨rfl,_,rfl,.inl ⟨rfl,ytb⟩⟩,⟨zz1,⟨⟨rfl,_,rfl,.inl ⟨rfl,(zce (f:=zbr.row) (x:=x0 s m) rfl rfl)⟩⟩,⟨zz1,⟨zz1,⟨zz1,⟨zz1,⟨zz1,trivial⟩⟩⟩⟩⟩⟩⟩⟩⟩,⟨⟨rfl,rfl⟩,trivial⟩,rfl,rfl,rfl⟩)
 refine sD ?_;cases hov:ovr s m with
 | true =>
  refine zai ?_ ?_
  . exact hov
  conv=>whnf
  repeat refine sG ?_
  refine zbn (z':=((k+1:Nat):Int)) ?_ ?_
  . show W ((k:Int)+1)=_
    rw [zbg (by omega) (by omega)];push_cast;rfl
  conv=>whnf
  (refine zac [] [(1000,1001)] [(0,930)] ?_;(conv=>whnf);refine dG (xln (s.queue.set k (m2 s m)) k (k+1) zz0 zz4 zz4) ?_)
  rw [zfz hc0 hw rfl,zy1 hov] at hG;subst hG
  (exact zdn (pK9 [(0,some 930),(1,some 163),(2,some 199),(3,some 1004),(4,some 1005),(5,some 1006),(6,some 920)]) zz12)
 | false =>
  refine zah ?_ ?_
  . exact hov
  conv=>whnf
  repeat refine sG ?_
  rw [zfz hc0 hw rfl,zy0 (by rw [hov];decide)] at hG;subst hG
  (exact zcc (pK9 [(0,some 1001),(1,some 163),(2,some 199),(3,some 1004),(4,some 1005),(5,some 1006),(6,some 920)]))):P:=h
theorem yy20 {P:Prop} (h:P:=by
 subst hG
 repeat refine sG ?_
 (exact zcc (pK9 [(0,some 1001),(1,some 1002),(2,some 1003),(3,some 1004),(4,some 1005),(5,some 1006),(6,some 1008)]))):P:=h
theorem yy0 {P:Prop} (h:P:=by
 refine zaj hm rfl (zw ?_);refine zau (z:=m.sent+many s m) hWs (zw ?_);refine zaj hm rfl (zw ?_);refine sD ?_;have hm':(zjc s k m).queue[k]?=some {m with mid:=zbt s m}:=by show (s.queue.set k _)[k]?=_;rw [zy17 hkl]
 have hmr:(s.queue.map zae.row)[k]?=some m.row:=by rw [zy13,hm];rfl
 (refine cL ?_;refine dL (zdd s.next) ?_)
 refine zaj hm rfl (zw ?_)
 (refine zac [] [(1000,1000),(1001,1001),(1002,1002),(1003,1003),(1004,1004),(1005,1005),(1006,1006),(1007,1007),(1008,1008),(1009,1009)] [] ?_;(conv=>whnf);refine dG (zqr s a b k m hm mf) ?_)
 (refine cL ?_;refine dL (zdd (zbt s m)) ?_)
 refine zaj hm' rfl (zw ?_);refine zaj hm' rfl (zw ?_);refine zaj hm' rfl (zw ?_);refine zaj hm' rfl (zw ?_);refine zaj hm' rfl (zw ?_);refine zau (z:=m.sent+many s m) hWs (zw ?_);refine zaa (c:=0<=m.sent/\m.sent<=m.sent+many s m/\m.sent+many s m<=((m.message.data.map zef).length:Int)) ⟨ms,by omega,by rw [zy3];omega⟩ (zw ?_);refine zke (o':=m.sent.toNat) (n':=(many s m).toNat) rfl (show (m.sent+many s m-m.sent).toNat=(many s m).toNat by rw [show m.sent+many s m-m.sent=many s m by omega]) ?_;refine zmo (f:=zef) (l:=m.message.data) (o:=m.sent.toNat) (n:=(many s m).toNat) zz0 ?_;(conv=>whnf)
 (refine zat [(0,150)]  ?_;(conv=>whnf);refine dO (Cl.zdb ((m.message.data.drop m.sent.toNat).take (many s m).toNat) zz4) ?_)
 refine zjn [4,10,18,24,29,33,37] ?_ ?_ ?_
 . kernel_rfl
 . refine ⟨?_,?_,?_,?_,?_,?_,?_,trivial⟩
   all_goals
    refine And.intro trivial ?_;refine And.intro trivial ?_;refine And.intro ?_ trivial;(conv=>whnf);refine And.intro ?_ ?_
    . conv=>whnf
      all_goals first | rfl | exact zaj hm rfl rfl
    refine And.intro ?_ trivial;(conv=>whnf)
    all_goals first | rfl | exact zaj hm' rfl rfl
 (conv=>whnf);refine zaj hm' rfl (zw ?_)
 (refine zat [(0,163)]  ?_;(conv=>whnf);refine dO (zla s.sched {m with mid:=zbt s m} (many s m) (ovr s m) zz0 mf.lo mh) ?_)
 refine sD ?_;refine zaj hm' rfl (zw ?_);refine zaj hm' rfl (zw ?_);refine zaj hm' rfl (zw ?_);refine zaj hm' rfl (zw ?_);refine zaa (c:=((s.out.map zbr.row).length+1)*200<=140737488355328) zz15 (zw ?_);refine sD ?_;refine sR ?_;refine zaj hm' rfl (zw ?_);refine zau (z:=m.sent+many s m) hWs (zw ?_);refine zaj hm' rfl (zw ?_);refine zbu rfl zz43 (zw ?_);refine sR ?_;refine zbu rfl zz43 (zw ?_);refine zbn (z':=(s.out.length:Int)) ?_ ?_
 . show W ((((zjc s k m).out.map zbr.row++[_]).length:Int)-1)=_
   rw [zy4,zy3,show (zjc s k m).out=s.out from rfl,zbg (by simp only [zy8,zy16];omega) (by simp only [zy8,zy16];omega)];simp only [zy8,zy16];omega
 (conv=>whnf);refine zaa zz9 (zw ?_)
 (refine zac [] [(1000,1000),(1001,1001),(1002,163),(1003,199),(1004,1004),(1005,1005),(1006,1006),(1007,1007),(1008,1008),(1009,1009)] [(0,920)] ?_;(conv=>whnf);refine dG (zpc (s2 s k m) a b s.out.length (x0 s m) w zz80 hw zz0) ?_ ⟨rfl,rfl,rfl,⟨zz1,⟨⟨rfl,_,rfl,.inl ⟨rfl,ytb⟩⟩,⟨zz1,⟨⟨rfl,_,rfl,.inl ⟨rfl,(zce (f:=zbr.row) (x:=x0 s m) rfl rfl)⟩⟩,⟨zz1,⟨zz1,⟨zz1,⟨zz1,⟨zz1,⟨zz1,trivial⟩⟩⟩⟩⟩⟩⟩⟩⟩⟩,⟨⟨rfl,rfl⟩,trivial⟩,rfl,rfl,rfl⟩)
 refine sD ?_;cases hov:ovr s m with
 | true =>
  refine zai ?_ ?_
  . exact hov
  conv=>whnf
  repeat refine sG ?_
  refine zbn (z':=((k+1:Nat):Int)) ?_ ?_
  . show W ((k:Int)+1)=_
    rw [zbg (by omega) (by omega)];push_cast;rfl
  conv=>whnf
  (refine zac [] [(1000,1001)] [(0,930)] ?_;(conv=>whnf);refine dG (xln (s.queue.set k (m2 s m)) k (k+1) zz0 zz4 zz4) ?_)
  rw [zfz hc0 hw rfl,zy1 hov] at hG;subst hG
  (exact zdn (zig [(0,some 930),(1,some 163),(2,some 199),(3,some 1004),(4,some 1005),(5,some 1006),(6,some 920),(7,some 1009)]) zz12)
 | false =>
  refine zah ?_ ?_
  . exact hov
  conv=>whnf
  repeat refine sG ?_
  rw [zfz hc0 hw rfl,zy0 (by rw [hov];decide)] at hG;subst hG
  (exact zcc (zig [(0,some 1001),(1,some 163),(2,some 199),(3,some 1004),(4,some 1005),(5,some 1006),(6,some 920),(7,some 1009)]))):P:=h
theorem yy8 {P:Prop} (h:P:=by
 subst hG
 repeat refine sG ?_
 (exact zcc (zig [(0,some 1001),(1,some 1002),(2,some 1003),(3,some 1004),(4,some 1005),(5,some 1006),(6,some 1008),(7,some 1009)]))):P:=h
theorem yy1 {P:Prop} (h:P:=by
 refine zaj hm rfl (zw ?_);refine zau (z:=m.sent+many s m) hWs (zw ?_);refine zaj hm rfl (zw ?_);refine sD ?_;have hm':(zjc s k m).queue[k]?=some {m with mid:=zbt s m}:=by show (s.queue.set k _)[k]?=_;rw [zy17 hkl]
 have hmr:(s.queue.map zae.row)[k]?=some m.row:=by rw [zy13,hm];rfl
 (refine cL ?_;refine dL (zdd s.next) ?_)
 refine zaj hm rfl (zw ?_)
 (refine zac [] [(1000,1000),(1001,1001),(1002,1002),(1003,1003),(1004,1004),(1005,1005),(1006,1006),(1007,1007),(1008,1008),(1009,1009)] [] ?_;(conv=>whnf);refine dG (zqr s a b k m hm mf) ?_)
 (refine cL ?_;refine dL (zdd (zbt s m)) ?_)
 refine zaj hm' rfl (zw ?_);refine zaj hm' rfl (zw ?_);refine zaj hm' rfl (zw ?_);refine zaj hm' rfl (zw ?_);refine zaj hm' rfl (zw ?_);refine zau (z:=m.sent+many s m) hWs (zw ?_);refine zaa (c:=0<=m.sent/\m.sent<=m.sent+many s m/\m.sent+many s m<=((m.message.data.map zef).length:Int)) ⟨ms,by omega,by rw [zy3];omega⟩ (zw ?_);refine zke (o':=m.sent.toNat) (n':=(many s m).toNat) rfl (show (m.sent+many s m-m.sent).toNat=(many s m).toNat by rw [show m.sent+many s m-m.sent=many s m by omega]) ?_;refine zmo (f:=zef) (l:=m.message.data) (o:=m.sent.toNat) (n:=(many s m).toNat) zz0 ?_;(conv=>whnf)
 (refine zat [(0,150)]  ?_;(conv=>whnf);refine dO (Cl.zdb ((m.message.data.drop m.sent.toNat).take (many s m).toNat) zz4) ?_)
 refine zjn [4,10,18,24,29,33,37] ?_ ?_ ?_
 . kernel_rfl
 . refine ⟨?_,?_,?_,?_,?_,?_,?_,trivial⟩
   all_goals
    refine And.intro trivial ?_;refine And.intro trivial ?_;refine And.intro ?_ trivial;(conv=>whnf);refine And.intro ?_ ?_
    . conv=>whnf
      all_goals first | rfl | exact zaj hm rfl rfl
    refine And.intro ?_ trivial;(conv=>whnf)
    all_goals first | rfl | exact zaj hm' rfl rfl
 (conv=>whnf);refine zaj hm' rfl (zw ?_)
 (refine zat [(0,163)]  ?_;(conv=>whnf);refine dO (zla s.sched {m with mid:=zbt s m} (many s m) (ovr s m) zz0 mf.lo mh) ?_)
 refine sD ?_;refine zaj hm' rfl (zw ?_);refine zaj hm' rfl (zw ?_);refine zaj hm' rfl (zw ?_);refine zaj hm' rfl (zw ?_);refine zaa (c:=((s.out.map zbr.row).length+1)*200<=140737488355328) zz15 (zw ?_);refine sD ?_;refine sR ?_;refine zaj hm' rfl (zw ?_);refine zau (z:=m.sent+many s m) hWs (zw ?_);refine zaj hm' rfl (zw ?_);refine zbu rfl zz43 (zw ?_);refine sR ?_;refine zbu rfl zz43 (zw ?_);refine zbn (z':=(s.out.length:Int)) ?_ ?_
 . show W ((((zjc s k m).out.map zbr.row++[_]).length:Int)-1)=_
   rw [zy4,zy3,show (zjc s k m).out=s.out from rfl,zbg (by simp only [zy8,zy16];omega) (by simp only [zy8,zy16];omega)];simp only [zy8,zy16];omega
 (conv=>whnf);refine zaa zz9 (zw ?_)
 (refine zac [] [(1000,1000),(1001,1001),(1002,163),(1003,199),(1004,1004),(1005,1005),(1006,1006),(1007,1007),(1008,1008),(1009,1009)] [(0,920)] ?_;(conv=>whnf);refine dG (zpd (s2 s k m) a b s.out.length (x0 s m) w zz80 hw zz0) ?_ ⟨rfl,rfl,rfl,⟨zz1,⟨⟨rfl,_,rfl,.inl ⟨rfl,ytb⟩⟩,⟨zz1,⟨⟨rfl,_,rfl,.inl ⟨rfl,(zce (f:=zbr.row) (x:=x0 s m) rfl rfl)⟩⟩,⟨zz1,⟨zz1,⟨zz1,⟨zz1,⟨zz1,⟨zz1,trivial⟩⟩⟩⟩⟩⟩⟩⟩⟩⟩,⟨⟨rfl,rfl⟩,trivial⟩,rfl,rfl,rfl⟩)
 refine sD ?_;cases hov:ovr s m with
 | true =>
  refine zai ?_ ?_
  . exact hov
  conv=>whnf
  repeat refine sG ?_
  refine zbn (z':=((k+1:Nat):Int)) ?_ ?_
  . show W ((k:Int)+1)=_
    rw [zbg (by omega) (by omega)];push_cast;rfl
  conv=>whnf
  (refine zac [] [(1000,1001)] [(0,930)] ?_;(conv=>whnf);refine dG (xln (s.queue.set k (m2 s m)) k (k+1) zz0 zz4 zz4) ?_)
  rw [zfz hc0 hw rfl,zy1 hov] at hG;subst hG
  (exact zdn (zig [(0,some 930),(1,some 163),(2,some 199),(3,some 1004),(4,some 1005),(5,some 1006),(6,some 1008),(7,some 920)]) zz12)
 | false =>
  refine zah ?_ ?_
  . exact hov
  conv=>whnf
  repeat refine sG ?_
  rw [zfz hc0 hw rfl,zy0 (by rw [hov];decide)] at hG;subst hG
  (exact zcc (zig [(0,some 1001),(1,some 163),(2,some 199),(3,some 1004),(4,some 1005),(5,some 1006),(6,some 1008),(7,some 920)]))):P:=h
theorem yy12 {P:Prop} (h:P:=by
 rw [zy0 ho] at hP;refine zah ?_ ?_
 . simpa using ho
 conv=>whnf
 repeat refine sG ?_
 refine zaa (c:=(0:Int)<=zcg s.config.packet B/\zcg s.config.packet B<=((B.map Chunk.row).length:Int)/\((B.map Chunk.row).length:Int)<=((B.map Chunk.row).length:Int)) ⟨by omega,by rw [zy3];omega,by omega⟩ (zw ?_);obtain ⟨x,B1,hx⟩:∃ x B1,B.take r=x::B1:=by
  cases hq:B.take r with
  | nil=>rw [zy112] at hq;rcases hq with hq | hq;omega;exact absurd hq hB
  | cons x B1=>exact ⟨x,B1,rfl⟩
 have hxl:B1.length+1=r:=by have:=congrArg List.length hx;simp at this;omega
 refine hQ2 _ _ (zw ?_);exact ⟨⟨((x::B1,B.drop r),n,acc),by rw [<- hx,zy28],by simp;omega,by simp;omega,by rw [<- i3,hP];simp⟩,(zbx (zig [(900,some 900)]) zz7),by simp;omega⟩):P:=h
theorem yy15 {P:Prop} (h:P:=by
 cases hq:B.take r with
 | nil=>rw [zy112] at hq;rcases hq with hq | hq;omega;exact absurd hq hB
 | cons x B1=>exact ⟨x,B1,rfl⟩):P:=h
theorem yy47 {P:Prop} (h:P:=by
 conv=>whnf
 repeat refine sG ?_
 refine hQ2 _ _ (zw ?_);refine sF ?_;refine hQ _ _ ?_;conv=>whnf
 exact ⟨⟨(0+1,acc),by dsimp only;omega,by dsimp only;rw [zy16] at i4;omega,i3⟩,(zdf (pK9 [(900,some 900)])),by dsimp only;omega⟩):P:=h
theorem yy48 {P:Prop} (h:P:=by
 conv=>whnf
 repeat refine sG ?_
 refine hQ2 _ _ (zw ?_);refine sF ?_;refine hQ _ _ ?_;conv=>whnf
 exact ⟨⟨(0+1,acc),by dsimp only;omega,by dsimp only;rw [zy16] at i4;omega,i3⟩,(zdf (zig [(900,some 900)])),by dsimp only;omega⟩):P:=h
theorem yy49 {P:Prop} (h:P:=by
 conv=>whnf
 repeat refine sG ?_
 refine hQ2 _ _ (zw ?_);refine sF ?_;refine hQ _ _ ?_;conv=>whnf
 exact ⟨⟨(1+1,acc),by dsimp only;omega,by dsimp only;rw [zy16] at i4;omega,i3⟩,(zdf (zig [(900,some 900)])),by dsimp only;omega⟩):P:=h
theorem yy65 {P:Prop} (h:P:=by
 refine hQ2 _ _ (zw ?_);exact ⟨⟨((t::(A++B.take r),B.drop r),n,acc),by rw [i1];simp,by simp;omega,by simp;omega,by rw [<- i3,hP];simp⟩,(zbx (zig [(900,some 900)]) zz6),by simp;omega⟩):P:=h
theorem yy13 {P:Prop} (h:P:=by
 refine zjn [3] ?_ ?_ ?_
 . kernel_rfl
 . refine ⟨?_,trivial⟩
   refine And.intro trivial ?_;refine And.intro trivial ?_;refine And.intro ?_ trivial;(conv=>whnf);refine And.intro ?_ ?_
   . conv=>whnf
   refine And.intro ?_ trivial;(conv=>whnf)
   all_goals first | rfl | trace_state
 (conv=>whnf);refine zam [(0,some 900),(1,some 901),(2,some 902),(3,some 903),(4,some 904),(5,some 905),(6,some 970)] rfl rfl trivial rfl rfl ⟨⟨rfl,.inl ⟨900,rfl,rfl⟩⟩,⟨rfl,.inl ⟨901,rfl,rfl⟩⟩,⟨rfl,.inl ⟨902,rfl,rfl⟩⟩,⟨rfl,.inl ⟨903,rfl,?_⟩⟩,⟨rfl,.inl ⟨904,rfl,rfl⟩⟩,⟨rfl,.inl ⟨905,rfl,rfl⟩⟩,⟨rfl,.inl ⟨970,rfl,?_⟩⟩,trivial⟩
 . exact zar (by rw [zy9,yjw,hN,h])
 . exact zar zz82):P:=h
theorem yy26 {P:Prop} (h:P:=by
 refine sF ?_;exact ⟨⟨(A++[p],B),zas h⟩,(zcy ((2,some 2)::((16,some 16)::((14,some 14)::(pJ7 [])))) zz8),by simp⟩):P:=h
theorem yy27 {P:Prop} (h:P:=by
 refine sF ?_;exact ⟨⟨(A++[p],B),zas h⟩,(zcy ((2,some 2)::((16,some 16)::((14,some 14)::(pJ8 [])))) zz8),by simp⟩):P:=h
theorem yy67 {P:Prop} (h:P:=by
 refine zal (a:=A.map (zgv t N)) (b:=B) (s:=p) rfl zz3 (zw ?_);refine sF ?_;exact ⟨⟨(A++[p],B),zas h⟩,(zcy ((2,some 2)::((16,some 16)::((14,some 14)::(pJ7 [])))) zz10),by simp⟩):P:=h
theorem yy68 {P:Prop} (h:P:=by
 refine zal (a:=A.map (zgv t N)) (b:=B) (s:=p) rfl zz3 (zw ?_);refine sF ?_;exact ⟨⟨(A++[p],B),zas h⟩,(zcy ((2,some 2)::((16,some 16)::((14,some 14)::(pJ8 [])))) zz10),by simp⟩):P:=h
theorem yy23 {P:Prop} (h:P:=by
 refine sT ?_;refine zaa (c:=((out.map zbr.row).length+1)*200<=140737488355328) om (zw ?_);refine sF ?_;exact ⟨⟨_,hnx⟩,(zcy [(6,some 6),(900,some 900),(901,some 115),(902,some 902)] zz22),by simp⟩):P:=h
theorem yy38 {P:Prop} (h:P:=by
 (repeat' (first | refine sT ?_ | refine sN ?_))
 refine sO ?_;refine zdw s.path.toNat zz0 zz0 (zw ?_);refine sR ?_;refine sO ?_;refine zdw s.path.toNat zz0 zz0 (zw ?_);refine sD ?_;refine sN ?_;refine sF ?_;exact ⟨⟨_,hnx⟩,(zcy ((6,some 6)::(pJ3 [])) zz29),by simp⟩):P:=h
theorem yy44 {P:Prop} (h:P:=by
 (refine zat [(0,46)]  ?_;(conv=>whnf);refine dO (zdm l hl) ?_)
 exact zam [(0,some 46),(1,some 900),(2,none)] rfl rfl trivial rfl rfl ⟨⟨rfl,.inl ⟨46,rfl,rfl⟩⟩,⟨rfl,.inl ⟨900,rfl,rfl⟩⟩,⟨rfl,.inr ⟨rfl,rfl⟩⟩,trivial⟩):P:=h
theorem yy89 {P:Prop} (h:P:=by
 refine sT ?_;refine sF ?_;exact ⟨⟨(a++[s],b),zas h⟩,(zcy [(900,some 900),(901,some 901),(903,some 903)] zz39),by simp⟩):P:=h
theorem yy3 {P:Prop} (h:P:=by
 (refine zac [] [(1000,932)] [(0,960)] ?_;(conv=>whnf);refine dG (Sco.zfk t.out t.cum zz88) ?_)
 cases mv with
 | false =>
  rw [show zej false t=t from zy0 (fun h=>absurd h.1 (by decide))] at hT;subst hT;(conv=>whnf)
  (refine zac [] [(1000,5),(1001,930),(1002,931),(1003,932),(1004,933),(1005,934),(1006,935)] [(0,980),(1,981),(2,982),(3,983),(4,984),(5,985)] ?_;(conv=>whnf);refine dG (zdz t (hft)) ?_ ⟨rfl,rfl,rfl,⟨zz1,⟨zz1,⟨zz1,⟨zz1,⟨zz1,⟨zz1,⟨zz1,trivial⟩⟩⟩⟩⟩⟩⟩,⟨⟨rfl,rfl⟩,⟨⟨rfl,rfl⟩,⟨⟨rfl,rfl⟩,⟨⟨rfl,rfl⟩,⟨⟨rfl,rfl⟩,⟨⟨rfl,rfl⟩,trivial⟩⟩⟩⟩⟩⟩,rfl,rfl,rfl⟩)
  refine zam [(0,some 980),(1,some 981),(2,some 982),(3,some 983),(4,some 984),(5,some 985)] rfl rfl trivial rfl rfl ⟨⟨rfl,.inl ⟨980,rfl,rfl⟩⟩,⟨rfl,.inl ⟨981,rfl,rfl⟩⟩,⟨rfl,.inl ⟨982,rfl,rfl⟩⟩,⟨rfl,.inl ⟨983,rfl,rfl⟩⟩,⟨rfl,.inl ⟨984,rfl,rfl⟩⟩,⟨rfl,.inl ⟨985,rfl,rfl⟩⟩,trivial⟩
 | true =>
  (conv=>whnf);by_cases e1:(Sco.zeg t.out t.cum).1>t.cum
  case pos =>
   rw [show zej true t={t with forward:=true} from zy1 ⟨rfl,e1⟩] at hT;subst hT;rw [show decide ((Sco.zeg t.out t.cum).1>t.cum)=true from zy12 e1];(conv=>whnf)
   (refine zac [] [(1000,5),(1001,930),(1002,931),(1003,932),(1004,933),(1005,934),(1006,935)] [(0,980),(1,981),(2,982),(3,983),(4,984),(5,985)] ?_;(conv=>whnf);refine dG (zdz ({t with forward:=true}:zab) ((Fit.fwd hft))) ?_ ⟨rfl,rfl,rfl,⟨zz1,⟨zz1,⟨zz1,⟨zz1,⟨zz1,⟨zz1,⟨zz1,trivial⟩⟩⟩⟩⟩⟩⟩,⟨⟨rfl,rfl⟩,⟨⟨rfl,rfl⟩,⟨⟨rfl,rfl⟩,⟨⟨rfl,rfl⟩,⟨⟨rfl,rfl⟩,⟨⟨rfl,rfl⟩,trivial⟩⟩⟩⟩⟩⟩,rfl,rfl,rfl⟩)
   refine zam [(0,some 980),(1,some 981),(2,some 982),(3,some 983),(4,some 984),(5,some 985)] rfl rfl trivial rfl rfl ⟨⟨rfl,.inl ⟨980,rfl,rfl⟩⟩,⟨rfl,.inl ⟨981,rfl,rfl⟩⟩,⟨rfl,.inl ⟨982,rfl,rfl⟩⟩,⟨rfl,.inl ⟨983,rfl,rfl⟩⟩,⟨rfl,.inl ⟨984,rfl,rfl⟩⟩,⟨rfl,.inl ⟨985,rfl,rfl⟩⟩,trivial⟩
  case neg =>
   rw [show zej true t=t from zy0 (fun h=>e1 h.2)] at hT;subst hT;rw [show decide ((Sco.zeg t.out t.cum).1>t.cum)=false from zy20 e1];(conv=>whnf)
   (refine zac [] [(1000,5),(1001,930),(1002,931),(1003,932),(1004,933),(1005,934),(1006,935)] [(0,980),(1,981),(2,982),(3,983),(4,984),(5,985)] ?_;(conv=>whnf);refine dG (zdz t (hft)) ?_ ⟨rfl,rfl,rfl,⟨zz1,⟨zz1,⟨zz1,⟨zz1,⟨zz1,⟨zz1,⟨zz1,trivial⟩⟩⟩⟩⟩⟩⟩,⟨⟨rfl,rfl⟩,⟨⟨rfl,rfl⟩,⟨⟨rfl,rfl⟩,⟨⟨rfl,rfl⟩,⟨⟨rfl,rfl⟩,⟨⟨rfl,rfl⟩,trivial⟩⟩⟩⟩⟩⟩,rfl,rfl,rfl⟩)
   refine zam [(0,some 980),(1,some 981),(2,some 982),(3,some 983),(4,some 984),(5,some 985)] rfl rfl trivial rfl rfl ⟨⟨rfl,.inl ⟨980,rfl,rfl⟩⟩,⟨rfl,.inl ⟨981,rfl,rfl⟩⟩,⟨rfl,.inl ⟨982,rfl,rfl⟩⟩,⟨rfl,.inl ⟨983,rfl,rfl⟩⟩,⟨rfl,.inl ⟨984,rfl,rfl⟩⟩,⟨rfl,.inl ⟨985,rfl,rfl⟩⟩,trivial⟩):P:=h
theorem yy4 {P:Prop} (h:P:=by
 refine zam [(0,some 980),(1,some 981),(2,some 982),(3,some 983),(4,some 984),(5,some 985)] rfl rfl trivial rfl rfl ⟨⟨rfl,.inl ⟨980,rfl,rfl⟩⟩,⟨rfl,.inl ⟨981,rfl,rfl⟩⟩,⟨rfl,.inl ⟨982,rfl,rfl⟩⟩,⟨rfl,.inl ⟨983,rfl,rfl⟩⟩,⟨rfl,.inl ⟨984,rfl,rfl⟩⟩,⟨rfl,.inl ⟨985,rfl,rfl⟩⟩,trivial⟩):P:=h
theorem yy30 {P:Prop} (h:P:=by
 (conv=>whnf);exact zam [(0,some 20),(1,some 21),(2,some 22),(3,some 23),(4,some 24),(5,some 25)] rfl rfl trivial rfl rfl ⟨⟨rfl,.inl ⟨20,rfl,rfl⟩⟩,⟨rfl,.inl ⟨21,rfl,rfl⟩⟩,⟨rfl,.inl ⟨22,rfl,rfl⟩⟩,⟨rfl,.inl ⟨23,rfl,rfl⟩⟩,⟨rfl,.inl ⟨24,rfl,rfl⟩⟩,⟨rfl,.inl ⟨25,rfl,rfl⟩⟩,trivial⟩):P:=h
theorem yy83 {P:Prop} (h:P:=by
 split
 . obtain ⟨k,hk⟩:∃ k:Nat,m.id=k:=⟨m.id.toNat,by omega⟩
   rw [hk];exact ⟨ycl h zz0,by rw [zgr,zy25]⟩
 . exact ⟨h,rfl⟩):P:=h
theorem yy69 {P:Prop} (h:P:=by
 exact ⟨by rw [g2];exact q.path0,by rw [g2];exact q.path1,by rw [g3];exact q.id0,by rw [g3];exact q.id1,by rw [g4];exact q.zaq,by rw [g4];exact q.zbv,by rw [g4];exact q.data⟩):P:=h
theorem yy96 {P:Prop} (h:P:=by
 try refine sG ?_
 rw [hjv];refine zam [(0,none)] rfl rfl trivial rfl rfl ⟨⟨rfl,.inr ⟨rfl,rfl⟩⟩,trivial⟩):P:=h
theorem yy100 {P:Prop} (h:P:=by
 intro hlt;have:=zy154 (yso n) l;rw [show l.dropWhile (yso n)=t::r from ha] at this;simp [yso] at this;omega):P:=h
theorem yy37 {P:Prop} (h:P:=by
 refine zam [(0,some 24)] rfl rfl trivial rfl rfl ⟨⟨rfl,.inl ⟨24,rfl,rfl⟩⟩,trivial⟩):P:=h
theorem yy40 {P:Prop} (h:P:=by
 (conv=>whnf);rw [zkk,zy1 he];refine zam [(0,some 84)] rfl rfl trivial rfl rfl ⟨⟨rfl,.inl ⟨84,rfl,?_⟩⟩,trivial⟩;exact yar zz73):P:=h
theorem yy95 {P:Prop} (h:P:=by
 subst hu;refine zam [(0,some 31)] rfl rfl trivial rfl rfl ⟨⟨rfl,.inl ⟨31,rfl,?_⟩⟩,trivial⟩;exact yar h):P:=h
theorem yy57 {P:Prop} (h:P:=by
 (exact zcc (pK5 [(0,some 910),(1,some 911),(2,some 912),(3,some 913)]))):P:=h
theorem yy78 {P:Prop} (h:P:=by
 (exact zcc (pK5 [(0,some 1001),(1,some 1002),(2,some 1003),(3,some 1004)]))):P:=h
namespace Go.HL
namespace Snd
open Ser
theorem xbu (id:Int) (s:zab) (m:zae):(zes id s m).out.length=s.out.length+(if m.id=id/\m.parts>0 then 1 else 0):=by
 unfold zes;split<;>simp
theorem ynt (id:Int):∀ (q:List zae) (s:zab),(q.foldl (zes id) s).out.length+(q.filter fun m=>decide (m.id≠id)).length<=s.out.length+q.length
 | [],s=>by simp
 | m::q,s=>by
  have h1:=xbu id s m;have h2:=ynt id q (zes id s m);rw [zy35,zy64,zy8];by_cases c:m.id=id
  . simp [c] at h1 h2 ⊢;split at h1<;>omega
  . simp [c] at h1 h2 ⊢;omega
theorem yno (id:Int):∀ (q:List zae) (s:zab),∀ x∈(q.foldl (zes id) s).out,x∈s.out\/x.id=id
 | [],s,x,h=>.inl h
 | m::q,s,x,h=>by
  rcases yno id q (zes id s m) x h with h | h
  . unfold zes at h
    split at h
    . rename_i c
      rcases zy10.1 h with h | h
      . exact .inl h
      . rw [zy7] at h;subst h;exact .inr c.1
    . exact .inl h
  . exact .inr h
structure ymt (s:zab):Prop where
 fit:Fit s
 sum:s.out.length+s.queue.length<2 ^ 30
 qid:∀ m∈s.queue,0<=m.id/\m.id<s.fates.length
 xid:∀ x∈s.out,0<=x.id/\x.id<s.fates.length
structure Rest (s t:zab):Prop where
 config:t.config=s.config
 clock:t.clock=s.clock
 had:t.sched.had=s.sched.had
 paths:t.paths.length=s.paths.length
 cum:t.cum=s.cum
 room:t.room=s.room
 mids:t.mids=s.mids
 fates:t.fates.length=s.fates.length
 sum:t.out.length+t.queue.length<=s.out.length+s.queue.length
theorem Rest.refl (s:zab):Rest s s:=⟨rfl,rfl,rfl,rfl,rfl,rfl,rfl,rfl,zy19 _⟩
theorem Rest.trans {a b c:zab} (h:Rest a b) (k:Rest b c):Rest a c:=⟨k.config.trans h.config,k.clock.trans h.clock,k.had.trans h.had,k.paths.trans h.paths,k.cum.trans h.cum,k.room.trans h.room,k.mids.trans h.mids,k.fates.trans h.fates,zy113 k.sum h.sum⟩
theorem ziw (s:zab) (id:Nat):Rest s (zcd s id)/\Sco.total (zcd s id).out=Sco.total s.out/\(∀ m∈(zcd s id).queue,m∈s.queue)/\(∀ x∈(zcd s id).out,x.id=id\/∃ y∈s.out,y.id=x.id):=by
 obtain ⟨o,n,h1,h2,h3⟩:=yvh s id s.queue;have hs:=ynt id s.queue {s with fates:=s.fates.set id 3};have hm:=yno id s.queue {s with fates:=s.fates.set id 3};rw [h1] at hs hm;have hg:zcd s id=zfa {(zkp s id o n) with queue:=s.queue.filter fun m=>decide (m.id≠id),sched:=if s.sched.hand=id then {s.sched with hand:=-1} else s.sched,out:=o.map (Sco.zhg id),forward:=true}:=by
  show zfa {(s.queue.foldl (zes id) {s with fates:=s.fates.set id 3}) with queue:=s.queue.filter fun m=>decide (m.id≠id),sched:=if s.sched.hand=id then {s.sched with hand:=-1} else s.sched,out:=(s.queue.foldl (zes id) {s with fates:=s.fates.set id 3}).out.map (Sco.zhg id),forward:=true}=_;rw [h1];rfl
 have hid:∀ y:zbr,(Sco.zhg id y).id=y.id:=fun y=>by unfold Sco.zhg;split<;>rfl
 rw [hg];refine ⟨⟨rfl,rfl,?_,?_,rfl,rfl,rfl,?_,?_⟩,?_,?_,?_⟩
 . show (if s.sched.hand=id then {s.sched with hand:=-1} else s.sched:ziu).had=_;split<;>rfl
 . show (s.paths.mapIdx _).length=_;simp
 . show (s.fates.set id 3).length=_;simp
 . show (o.map (Sco.zhg id)).length+_<=_
   rw [zy3];exact hs
 . show Sco.total (o.map (Sco.zhg id))=_
   rw [zkr,h3]
 . intro m h;exact (zy54.1 h).1
 . intro x h
   obtain ⟨y,hy,rfl⟩:=zy23.1 h;rcases hm y hy with h | h
   . exact .inr ⟨y,h,(hid y).symm⟩
   . exact .inl ((hid y).trans h)
theorem yck {s:zab} (h:ymt s) {id:Nat} (hid:id<s.fates.length):ymt (zcd s id):=by
 obtain ⟨r,h1,h2,h3⟩:=ziw s id;obtain ⟨⟨f1,f2,f3,f4,f5,f6,f7⟩,g2,g3,g4⟩:=h;have hs:=r.sum;have hq:(zcd s id).queue.length<=s.queue.length:=by
  have:(zcd s id).queue=s.queue.filter fun m:zae=>decide (m.id≠(id:Int)):=rfl
  rw [this];exact zy72 _ _
 refine ⟨⟨by omega,by rw [r.had];exact f2,⟨by omega,by rw [h1];exact f3.bytes⟩,by rw [r.paths];exact f4,by rw [r.mids];exact f5,by rw [r.fates];exact f6,fun m hm=>f7 m (h2 m hm)⟩,by omega,fun m hm=>by rw [r.fates];exact g3 m (h2 m hm),fun x hx=>?_⟩;rw [r.fates];rcases h3 x hx with e | ⟨y,hy,e⟩
 . rw [e];omega
 . rw [<- e];exact g4 y hy
theorem ycb {s:zab} (h:ymt s) {m:zae} (hm:0<=m.id/\m.id<s.fates.length):ymt (zhw s m)/\Rest s (zhw s m):=by
 unfold zhw;split
 . obtain ⟨k,hk⟩:∃ k:Nat,m.id=k:=⟨m.id.toNat,by omega⟩
   rw [hk];exact ⟨yck h zz0,(ziw s k).1⟩
 . exact ⟨h,Rest.refl s⟩
theorem ycd {s:zab} (h:ymt s) {x:zbr} (hm:0<=x.id/\x.id<s.fates.length):ymt (zgt s x)/\Rest s (zgt s x):=by
 unfold zgt;split
 . obtain ⟨k,hk⟩:∃ k:Nat,x.id=k:=⟨x.id.toNat,by omega⟩
   rw [hk];exact ⟨yck h zz0,(ziw s k).1⟩
 . exact ⟨h,Rest.refl s⟩
theorem yja (s:zab)  (hs:ymt s):zao Tryz.prog 93 [.ptr 1000 0] (lk .free (pH3 s )) (.tup []) (lk .free (pD3 (expire s) )):=by
 have hs':=hs;obtain ⟨⟨h1,h2,h3,h4,h5,h6,h7⟩,g2,g3,g4⟩:=hs;generalize hE:expire s=E;refine zan mixed Tryz.func93 zz5 [1000,1001,1002,1003,1004,1005,1006,1007] zbk ?_;(conv=>whnf)
 (refine zac [] [(1000,1001)] [(0,11)] ?_;(conv=>whnf);refine dG (xfc s.queue zz0) ?_)
 refine ⟨{x:(List zae×List zae)×zab // s.queue=x.1.1++x.1.2/\x.1.1.foldl zhw s=x.2/\ymt x.2/\Rest s x.2},
  fun | ⟨((A,B),t),_⟩=>hsP [1000,1001,1002,1003,1004,1005,1006,1007] 85 [(0,.ptr 1000 0),(11,.own 11),(12,i64 s.queue.length),(13,i64 A.length)] (xno t  900 901 902 903 904 905 1007 [(1001,.dead),(1002,.dead),(1003,.dead),(1004,.dead),(1005,.dead),(1006,.dead),(11,xpn s.queue)]),fun x=>x.1.1.2.length,⟨(([],s.queue),s),rfl,rfl,hs',Rest.refl s⟩,?_,?_⟩
 . exact (zdf (pK8 ((900,some 1001)::(901,some 1002)::(902,some 1003)::(903,some 1004)::(904,some 1005)::(905,some 1006)::[(11,some 11)])))
 rintro ⟨⟨⟨A,B⟩,t⟩,k1,k2,k3,k4⟩;dsimp only at k1 k2 k3 k4;refine zhm fun Q hQ=>?_
 (conv=>whnf);cases B with
 | cons m B =>
  have hz:=zch k1;have zdk:(A++[m]).foldl zhw s=zhw t m:=by rw [zy84,k2];rfl
  have hm:=g3 m (zlx k1);have ht:=k4.fates;obtain ⟨id,hid⟩:∃ k:Nat,m.id=k:=⟨m.id.toNat,by omega⟩
  obtain ⟨kn,kr⟩:=ycb k3 (m:=m) zz0;refine sT ?_;refine sO ?_;refine zal k1 rfl (zw ?_)
  (refine zac [] [(1000,1000),(1001,900),(1002,901),(1003,902),(1004,903),(1005,904),(1006,905),(1007,1007)] [] ?_;(conv=>whnf);refine dG (yjj t  m.came m.message.life) ?_)
  cases ho:old t.clock m.came m.message.life with
  | true =>
   rw [zhw,zy1 ho] at zdk kn kr;have pg:=zxx t  id k3.fit zz0 zz83;exact yy19
  | false =>
   exact yy61
 | nil =>
  have hz:=zde k1;rw [zy9] at k1;rw [<- k1] at k2;have hE2:t.out.foldl zgt t=E:=by rw [<- hE,expire,k2]
  have ko:=k3.sum;refine sN ?_;refine hQ _ _ ?_;conv=>whnf
  (refine zac [] [(1000,902)] [(0,34)] ?_;(conv=>whnf);refine dG (xfd t.out zz0) ?_)
  refine ⟨{x:(List zbr×List zbr)×zab // t.out=x.1.1++x.1.2/\x.1.1.foldl zgt t=x.2/\ymt x.2/\Rest t x.2},
   fun | ⟨((A,B),u),_⟩=>hsP [1000,1001,1002,1003,1004,1005,1006,1007] 85 [(0,.ptr 1000 0),(34,.own 34),(35,i64 t.out.length),(36,i64 A.length)] (xno u  900 901 902 903 904 905 1007 [(1001,.dead),(1002,.dead),(1003,.dead),(1004,.dead),(1005,.dead),(1006,.dead),(34,xqf t.out)]),fun x=>x.1.1.2.length,⟨(([],t.out),t),rfl,rfl,k3,Rest.refl t⟩,?_,?_⟩
  . exact (zdf (pK8 (pJ6 [(34,some 34)])))
  have g4:=k3.xid;clear hs' g3 g2 k4 k2 k1 hE hQ Q;rintro ⟨⟨⟨A,B⟩,u⟩,k1,k2,k3,k4⟩;dsimp only at k1 k2 k3 k4;refine zhm fun Q hQ=>?_
  (conv=>whnf);cases B with
  | cons x B =>
   have hz:=zch k1;have zdk:(A++[x]).foldl zgt t=zgt u x:=by rw [zy84,k2];rfl
   have hm:=g4 x (zlx k1);have ht:=k4.fates;obtain ⟨id,hid⟩:∃ k:Nat,x.id=k:=⟨x.id.toNat,by omega⟩
   obtain ⟨kn,kr⟩:=ycd k3 (x:=x) zz0;have hidl:id<u.fates.length:=by omega
   have pg:=zxx u  id k3.fit hidl zz83;rw [<- hid] at pg;obtain ⟨f,hf⟩:∃ f,u.fates[id]?=some f:=⟨_,zy2 hidl⟩
   have hdue:yru u x=(decide (f=1)&&(decide (x.state≠2)&&(old u.clock x.came x.life||(decide (x.state=3)&&(decide (x.tries>0)&&decide (x.times>x.tries)))))):=by
    unfold yru;rw [hid,zy38,hf];rfl
   refine sT ?_;refine sO ?_;refine zal k1 rfl (zw ?_);refine sOm ?_;refine zaj hf zz0 (zw ?_);by_cases d1:f=1
   case neg =>
    refine zah ?_ ?_
    . simpa using d1
    (conv=>whnf);refine sD ?_
    repeat refine sG ?_
    refine sF ?_;refine hQ _ _ ?_;conv=>whnf
    rw [zgt,zy0 (by rw [hdue];simp [d1])] at zdk;exact yy10
   refine zai ?_ ?_
   . simpa using d1
   (conv=>whnf);by_cases d2:x.state=2
   case pos =>
    refine zah ?_ ?_
    . simpa using d2
    (conv=>whnf);refine sD ?_
    repeat refine sG ?_
    refine sF ?_;refine hQ _ _ ?_;conv=>whnf
    rw [zgt,zy0 (by rw [hdue];simp [d1,d2])] at zdk;exact yy10
   refine zai ?_ ?_
   . simpa using d2
   conv=>whnf
   (refine zac [] [(1000,1000),(1001,900),(1002,901),(1003,902),(1004,903),(1005,904),(1006,905),(1007,1007)] [] ?_;(conv=>whnf);refine dG (yjj u  x.came x.life) ?_)
   exact yy6
  | nil =>
   exact yy50
theorem yjb (s:zab)  (hs:ymt s):zao Tryz.prog 93 [.ptr 1000 0] (lk .free (pH4 s )) (.tup []) (lk .free (pD4 (expire s) )):=by
 have hs':=hs;obtain ⟨⟨h1,h2,h3,h4,h5,h6,h7⟩,g2,g3,g4⟩:=hs;generalize hE:expire s=E;refine zan mixed Tryz.func93 zz5 [1000,1001,1002,1003,1004,1005,1006,1007] zbk ?_;(conv=>whnf)
 (refine zac [] [(1000,1001)] [(0,11)] ?_;(conv=>whnf);refine dG (xfc s.queue zz0) ?_)
 refine ⟨{x:(List zae×List zae)×zab // s.queue=x.1.1++x.1.2/\x.1.1.foldl zhw s=x.2/\ymt x.2/\Rest s x.2},
  fun | ⟨((A,B),t),_⟩=>hsP [1000,1001,1002,1003,1004,1005,1006,1007] 85 [(0,.ptr 1000 0),(11,.own 11),(12,i64 s.queue.length),(13,i64 A.length)] (xnp t  900 901 902 903 904 905 1007 [(1001,.dead),(1002,.dead),(1003,.dead),(1004,.dead),(1005,.dead),(1006,.dead),(11,xpn s.queue)]),fun x=>x.1.1.2.length,⟨(([],s.queue),s),rfl,rfl,hs',Rest.refl s⟩,?_,?_⟩
 . exact (zdf (pK8 ((900,some 1001)::(901,some 1002)::(902,some 1003)::(903,some 1004)::(904,some 1005)::(905,some 1006)::[(11,some 11)])))
 rintro ⟨⟨⟨A,B⟩,t⟩,k1,k2,k3,k4⟩;dsimp only at k1 k2 k3 k4;refine zhm fun Q hQ=>?_
 (conv=>whnf);cases B with
 | cons m B =>
  have hz:=zch k1;have zdk:(A++[m]).foldl zhw s=zhw t m:=by rw [zy84,k2];rfl
  have hm:=g3 m (zlx k1);have ht:=k4.fates;obtain ⟨id,hid⟩:∃ k:Nat,m.id=k:=⟨m.id.toNat,by omega⟩
  obtain ⟨kn,kr⟩:=ycb k3 (m:=m) zz0;refine sT ?_;refine sO ?_;refine zal k1 rfl (zw ?_)
  (refine zac [] [(1000,1000),(1001,900),(1002,901),(1003,902),(1004,903),(1005,904),(1006,905),(1007,1007)] [] ?_;(conv=>whnf);refine dG (yjk t  m.came m.message.life) ?_)
  cases ho:old t.clock m.came m.message.life with
  | true =>
   rw [zhw,zy1 ho] at zdk kn kr;have pg:=zxy t  id k3.fit zz0 zz83;exact yy19
  | false =>
   exact yy61
 | nil =>
  have hz:=zde k1;rw [zy9] at k1;rw [<- k1] at k2;have hE2:t.out.foldl zgt t=E:=by rw [<- hE,expire,k2]
  have ko:=k3.sum;refine sN ?_;refine hQ _ _ ?_;conv=>whnf
  (refine zac [] [(1000,902)] [(0,34)] ?_;(conv=>whnf);refine dG (xfd t.out zz0) ?_)
  refine ⟨{x:(List zbr×List zbr)×zab // t.out=x.1.1++x.1.2/\x.1.1.foldl zgt t=x.2/\ymt x.2/\Rest t x.2},
   fun | ⟨((A,B),u),_⟩=>hsP [1000,1001,1002,1003,1004,1005,1006,1007] 85 [(0,.ptr 1000 0),(34,.own 34),(35,i64 t.out.length),(36,i64 A.length)] (xnp u  900 901 902 903 904 905 1007 [(1001,.dead),(1002,.dead),(1003,.dead),(1004,.dead),(1005,.dead),(1006,.dead),(34,xqf t.out)]),fun x=>x.1.1.2.length,⟨(([],t.out),t),rfl,rfl,k3,Rest.refl t⟩,?_,?_⟩
  . exact (zdf (pK8 (pJ6 [(34,some 34)])))
  have g4:=k3.xid;clear hs' g3 g2 k4 k2 k1 hE hQ Q;rintro ⟨⟨⟨A,B⟩,u⟩,k1,k2,k3,k4⟩;dsimp only at k1 k2 k3 k4;refine zhm fun Q hQ=>?_
  (conv=>whnf);cases B with
  | cons x B =>
   have hz:=zch k1;have zdk:(A++[x]).foldl zgt t=zgt u x:=by rw [zy84,k2];rfl
   have hm:=g4 x (zlx k1);have ht:=k4.fates;obtain ⟨id,hid⟩:∃ k:Nat,x.id=k:=⟨x.id.toNat,by omega⟩
   obtain ⟨kn,kr⟩:=ycd k3 (x:=x) zz0;have hidl:id<u.fates.length:=by omega
   have pg:=zxy u  id k3.fit hidl zz83;rw [<- hid] at pg;obtain ⟨f,hf⟩:∃ f,u.fates[id]?=some f:=⟨_,zy2 hidl⟩
   have hdue:yru u x=(decide (f=1)&&(decide (x.state≠2)&&(old u.clock x.came x.life||(decide (x.state=3)&&(decide (x.tries>0)&&decide (x.times>x.tries)))))):=by
    unfold yru;rw [hid,zy38,hf];rfl
   refine sT ?_;refine sO ?_;refine zal k1 rfl (zw ?_);refine sOm ?_;refine zaj hf zz0 (zw ?_);by_cases d1:f=1
   case neg =>
    refine zah ?_ ?_
    . simpa using d1
    (conv=>whnf);refine sD ?_
    repeat refine sG ?_
    refine sF ?_;refine hQ _ _ ?_;conv=>whnf
    rw [zgt,zy0 (by rw [hdue];simp [d1])] at zdk;exact yy10
   refine zai ?_ ?_
   . simpa using d1
   (conv=>whnf);by_cases d2:x.state=2
   case pos =>
    refine zah ?_ ?_
    . simpa using d2
    (conv=>whnf);refine sD ?_
    repeat refine sG ?_
    refine sF ?_;refine hQ _ _ ?_;conv=>whnf
    rw [zgt,zy0 (by rw [hdue];simp [d1,d2])] at zdk;exact yy10
   refine zai ?_ ?_
   . simpa using d2
   conv=>whnf
   (refine zac [] [(1000,1000),(1001,900),(1002,901),(1003,902),(1004,903),(1005,904),(1006,905),(1007,1007)] [] ?_;(conv=>whnf);refine dG (yjk u  x.came x.life) ?_)
   exact yy6
  | nil =>
   exact yy50
end Snd
namespace Snd
open Ser
def xfx (l:List (List Chunk)):List Chunk:=l[0]?.getD []
def xna (l:List (List Chunk)):List Chunk:=l[1]?.getD []
theorem yfb:∀ (l:List Path) (k:Nat),(k=0->0<l.length)->∃ c:Nat,Paths.zdr k l=c/\(c=0\/c<k+l.length)
 | [],k,h=>⟨0,rfl,.inl rfl⟩
 | p::r,k,_=>by
  rw [Paths.zdr];split
  . exact ⟨k,rfl,.inr zz3⟩
  . obtain ⟨c,h1,h2⟩:=yfb r (k+1) zz0
    exact ⟨c,h1,by rcases h2 with h2 | h2;exact .inl h2;exact .inr zz4⟩
theorem zeq {s:zab} (h:0<s.paths.length):Paths.zdr 0 s.paths=(choose s:Nat)/\choose s<s.paths.length:=by
 obtain ⟨c,h1,h2⟩:=yfb s.paths 0 fun _=>h
 unfold choose;rw [h1];exact ⟨by simp,by rcases h2 with h2 | h2<;>simp<;>omega⟩
def zwj (s:zab):Chunk:=⟨3,tag (Sco.zeg s.out s.cum).1,0,0,0,false,false,[],[],0,(Sco.zeg s.out s.cum).2⟩
def yug (s:zab) (k:Nat) (w:Path):zab:={s with forward:=false,paths:=s.paths.set k (zcm s w)}
theorem zzu {s:zab} {o:List (List Chunk)} (h:s.forward=false\/(Sco.zeg s.out s.cum).1=s.cum):forward ⟨s,o⟩=⟨s,o⟩:=by rw [forward,zy1 h]
theorem yku {s:zab} {o:List (List Chunk)} {w:Path} {l:List Chunk} (h:¬ (s.forward=false\/(Sco.zeg s.out s.cum).1=s.cum)) (ha:s.paths[choose s]?=some w) (hl:o[choose s]?=some l) :
 forward ⟨s,o⟩=⟨yug s (choose s) w,o.set (choose s) (l++[zwj s])⟩:=by
 rw [forward,zy0 h];simp only [setAt,ha,hl,yug,zwj]
theorem ybo {s:zab} {w:Path} (h:¬ w.zcm=0):zcm s w=w:=by rw [zcm,zy0 h]
theorem zvh {s:zab} {w:Path} (h:w.zcm=0):zcm s w={w with zcm:=W (s.clock+w.wait)}:=by rw [zcm,zy1 h]
theorem yee (s:zab) (h3:s.out.length<2 ^ 38) (h4:s.paths.length=1) :
 zao Tryz.prog 94 [.ptr 1000 0] (lk .free (pH3 s)) (.tup [])
  (lk .free (xls (forward ⟨s,[[]]⟩).s (xfx (forward ⟨s,[[]]⟩).out) 1001 1002 1003 1004 1005 1006 1007 0 [])):=by
 obtain ⟨hch,hch2⟩:=zeq (s:=s) zz0;have hc0:choose s=0:=by omega
 have pc:=Paths.zev s.paths zz0;rw [hch,hc0] at pc;obtain ⟨w,ha⟩:∃ w,s.paths[0]?=some w:=⟨_,zy2 zz0⟩
 refine zan mixed Tryz.func94 zz5 [1000,1001,1002,1003,1004,1005,1006,1007] zbk ?_;(conv=>whnf)
 (refine zac [] [(1000,1003)] [(0,17)] ?_;(conv=>whnf);refine dG (Sco.zfk s.out s.cum h3) ?_)
 refine sD ?_;by_cases c1:s.forward=false
 . rw [zzu (.inl c1)]
   refine zai ?_ ?_
   . simp [c1]
   conv=>whnf
   repeat refine sG ?_
   (exact zcc (pK8 [(0,none)]))
 by_cases c2:(Sco.zeg s.out s.cum).1=s.cum
 . rw [zzu (.inr c2)]
   refine zah ?_ ?_
   . simp [c1]
   (conv=>whnf);refine zai ?_ ?_
   . simp [c2]
   conv=>whnf
   repeat refine sG ?_
   (exact zcc (pK8 [(0,none)]))
 have hfy:=yku (o:=[[]]) (l:=[]) (w:=w) zz69 (by rw [hc0];exact ha) (by rw [hc0];rfl);rw [hfy,hc0];refine zah ?_ ?_
 . simp [c1]
 (conv=>whnf);refine zah ?_ ?_
 . simp [c2]
 conv=>whnf
 repeat refine sG ?_
 (refine cL ?_;refine dL pc ?_)
 refine ⟨0,rfl,by decide,zw ?_⟩
 (refine cL ?_;refine dL (zdd _) ?_)
 refine zaa (c:=(1:Nat)*128<=140737488355328) zz5 (zw ?_);refine ⟨0,rfl,by decide,zw ?_⟩;refine sD ?_;refine sOm ?_;refine zaj ha rfl (zw ?_);by_cases c3:w.zcm=0
 case pos =>
  refine zai ?_ ?_
  . simpa using c3
  conv=>whnf
  repeat refine sG ?_
  refine zaj ha rfl (zw ?_);refine sR ?_;refine zaj ha rfl (zw ?_);refine sD ?_
  (exact zdn (pK8 [(0,some 62)]) zz18)
 case neg =>
  refine zah ?_ ?_
  . simpa using c3
  conv=>whnf
  repeat refine sG ?_
  rw [show (yug s 0 w)={s with forward:=false} by {unfold yug;rw [ybo c3,zql ha]}]
  (exact zcc (pK8 [(0,some 62)]))
theorem yef (s:zab) (h3:s.out.length<2 ^ 38) (h4:s.paths.length=2) :
 zao Tryz.prog 94 [.ptr 1000 0] (lk .free (pH4 s)) (.tup [])
  (lk .free (xgi (forward ⟨s,[[],[]]⟩).s (xfx (forward ⟨s,[[],[]]⟩).out) (xna (forward ⟨s,[[],[]]⟩).out) 1001 1002 1003 1004 1005 1006 1007 0 1 [])):=by
 obtain ⟨hch,hch2⟩:=zeq (s:=s) zz0;have hc01:choose s=0\/choose s=1:=by omega
 rcases hc01 with hc0 | hc0
 case inl =>
  have pc:=Paths.zev s.paths zz0;rw [hch,hc0] at pc;obtain ⟨w,ha⟩:∃ w,s.paths[0]?=some w:=⟨_,zy2 zz0⟩
  refine zan mixed Tryz.func94 zz5 [1000,1001,1002,1003,1004,1005,1006,1007] zbk ?_;(conv=>whnf)
  (refine zac [] [(1000,1003)] [(0,17)] ?_;(conv=>whnf);refine dG (Sco.zfk s.out s.cum h3) ?_)
  refine sD ?_;by_cases c1:s.forward=false
  . rw [zzu (.inl c1)]
    exact yy103
  by_cases c2:(Sco.zeg s.out s.cum).1=s.cum
  . rw [zzu (.inr c2)]
    exact yy84
  have hfy:=yku (o:=[[],[]]) (l:=[]) (w:=w) zz69 (by rw [hc0];exact ha) (by rw [hc0];rfl);rw [hfy,hc0];refine zah ?_ ?_
  . simp [c1]
  (conv=>whnf);refine zah ?_ ?_
  . simp [c2]
  conv=>whnf
  repeat refine sG ?_
  (refine cL ?_;refine dL pc ?_)
  refine ⟨0,rfl,by decide,zw ?_⟩
  (refine cL ?_;refine dL (zdd _) ?_)
  refine zaa (c:=(1:Nat)*128<=140737488355328) zz5 (zw ?_);refine ⟨0,rfl,by decide,zw ?_⟩;refine sD ?_;refine sOm ?_;refine zaj ha rfl (zw ?_);by_cases c3:w.zcm=0
  case pos =>
   refine zai ?_ ?_
   . simpa using c3
   conv=>whnf
   repeat refine sG ?_
   refine zaj ha rfl (zw ?_);refine sR ?_;refine zaj ha rfl (zw ?_);refine sD ?_
   (exact zdn (pK8 [(0,some 62),(1,none)]) zz18)
  case neg =>
   refine zah ?_ ?_
   . simpa using c3
   conv=>whnf
   repeat refine sG ?_
   rw [show (yug s 0 w)={s with forward:=false} by {unfold yug;rw [ybo c3,zql ha]}]
   (exact zcc (pK8 [(0,some 62),(1,none)]))
 case inr =>
  have pc:=Paths.zev s.paths zz0;rw [hch,hc0] at pc;obtain ⟨w,ha⟩:∃ w,s.paths[1]?=some w:=⟨_,zy2 zz0⟩
  refine zan mixed Tryz.func94 zz5 [1000,1001,1002,1003,1004,1005,1006,1007] zbk ?_;(conv=>whnf)
  (refine zac [] [(1000,1003)] [(0,17)] ?_;(conv=>whnf);refine dG (Sco.zfk s.out s.cum h3) ?_)
  refine sD ?_;by_cases c1:s.forward=false
  . rw [zzu (.inl c1)]
    exact yy103
  by_cases c2:(Sco.zeg s.out s.cum).1=s.cum
  . rw [zzu (.inr c2)]
    exact yy84
  have hfy:=yku (o:=[[],[]]) (l:=[]) (w:=w) zz69 (by rw [hc0];exact ha) (by rw [hc0];rfl);rw [hfy,hc0];refine zah ?_ ?_
  . simp [c1]
  (conv=>whnf);refine zah ?_ ?_
  . simp [c2]
  conv=>whnf
  repeat refine sG ?_
  (refine cL ?_;refine dL pc ?_)
  refine ⟨1,rfl,by decide,zw ?_⟩
  (refine cL ?_;refine dL (zdd _) ?_)
  refine zaa (c:=(1:Nat)*128<=140737488355328) zz5 (zw ?_);refine ⟨1,rfl,by decide,zw ?_⟩;refine sD ?_;refine sOm ?_;refine zaj ha rfl (zw ?_);by_cases c3:w.zcm=0
  case pos =>
   refine zai ?_ ?_
   . simpa using c3
   conv=>whnf
   repeat refine sG ?_
   refine zaj ha rfl (zw ?_);refine sR ?_;refine zaj ha rfl (zw ?_);refine sD ?_
   (exact zdn (pK8 [(1,some 62),(0,none)]) (by repeat' (first | exact z0 | refine z1 ?_ | refine ⟨?_,?_⟩ | ((exact (zfj (f:=Path.row) (y:={w with zcm:=W (s.clock+w.wait)}) rfl).trans (zar (by rw [show (yug s 1 w).paths=s.paths.set 1 (zcm s w) from rfl,zvh c3];rfl)))) | exact z2)))
  case neg =>
   refine zah ?_ ?_
   . simpa using c3
   conv=>whnf
   repeat refine sG ?_
   rw [show (yug s 1 w)={s with forward:=false} by {unfold yug;rw [ybo c3,zql ha]}]
   (exact zcc (pK8 [(1,some 62),(0,none)]))
end Snd
namespace Snd
open Ser
theorem znr {α:Type} (f:α->Nat->α) (p:α) (i:Nat):(List.range (i+1)).foldl f p=f ((List.range i).foldl f p) i:=by
 rw [List.range_succ,zy84];rfl
theorem zud {s:zab} {o:List (List Chunk)} {i c:Nat} {x:zbr} {w:Path} (hx:s.out[i]?=some x) (hw:s.paths[c]?=some w) (h:¬ (x.state=3/\w.zak<w.window)):zct c ⟨s,o⟩ i=⟨s,o⟩:=by
 simp only [zct,hx,opened,hw];rw [zy0 (by simpa using h)]
theorem zpj {s:zab} {o:List (List Chunk)} {i c:Nat} {x:zbr} {w:Path} {l:List Chunk} (hx:s.out[i]?=some x) (hw:s.paths[c]?=some w) (hl:o[c]?=some l) (h:x.state=3/\w.zak<w.window) :
 zct c ⟨s,o⟩ i=⟨yfu s i c x w,o.set c (l++[x.chunk])⟩:=by
 simp only [zct,hx,opened,hw];rw [zy1 (by simpa using h),xfi hx hw hl]
theorem yme (s:zab) (a:List Chunk) (h3:s.out.length<2 ^ 28) (h4:s.paths.length=1) (ha:a.length<2 ^ 28) :
 zao Tryz.prog 95 [.ptr 1000 0] (lk .free (pH1 s a)) (.tup [])
  (lk .free (xls (again ⟨s,[a]⟩).s (xfx (again ⟨s,[a]⟩).out) 1001 1002 1003 1004 1005 1006 1007 0 [(1008,.dead)])):=by
 obtain ⟨hch,hch2⟩:=zeq (s:=s) zz0;have hc0:choose s=0:=by omega
 have pc:=Paths.zev s.paths zz0;rw [hch,hc0] at pc;have hag:again ⟨s,[a]⟩=(List.range s.out.length).foldl (zct 0) ⟨s,[a]⟩:=by rw [again,hc0]
 generalize again ⟨s,[a]⟩=G at hag ⊢;refine zan mixed Tryz.func95 zz5 [1000,1001,1002,1003,1004,1005,1006,1007,1008] zbk ?_;(conv=>whnf)
 (refine cL ?_;refine dL pc ?_)
 refine ⟨{x:Nat×zab×List Chunk // x.1<=s.out.length/\(List.range x.1).foldl (zct 0) ⟨s,[a]⟩=⟨x.2.1,[x.2.2]⟩/\x.2.1.out.length=s.out.length/\x.2.1.paths.length=s.paths.length/\x.2.2.length<=a.length+x.1},
  fun | ⟨(i,t,a'),_⟩=>hsP [1000,1001,1002,1003,1004,1005,1006,1007,1008] 51 [(0,.ptr 1000 0),(2,i64 0),(15,i64 s.out.length),(16,i64 i)] (xls t a' 1001 1002 1003 1004 1005 1006 1007 900 [(1008,.dead)]),fun x=>s.out.length-x.1.1,⟨(0,s,a),by omega,rfl,rfl,rfl,by dsimp only;omega⟩,?_,?_⟩
 . exact (zbx (pK9 [(900,some 1008)]) zz2)
 rintro ⟨⟨i,t,a'⟩,k1,k2,k3,k4,k5⟩;dsimp only at k1 k2 k3 k4 k5;(conv=>whnf);by_cases hi:i<s.out.length
 case pos =>
  obtain ⟨x,hx⟩:∃ x,t.out[i]?=some x:=⟨_,zy2 zz0⟩
  obtain ⟨w,hw⟩:∃ w,t.paths[0]?=some w:=⟨_,zy2 zz0⟩
  have hst:=znr (zct 0) ⟨s,[a]⟩ i;rw [k2] at hst;have hno:=zud (o:=[a']) (c:=0) hx hw;have hyes:=zpj (o:=[a']) (c:=0) (l:=a') hx hw rfl;refine sT ?_;refine sO ?_;refine zaj hx rfl (zw ?_);by_cases d1:x.state=3
  case neg =>
   refine zah ?_ ?_
   . simpa using d1
   conv=>whnf
   repeat refine sG ?_
   refine sF ?_;exact ⟨⟨(i+1,t,a'),by dsimp only;omega,by rw [hst,hno fun h=>d1 h.1],k3,k4,by dsimp only;omega⟩,(zbx (pK9 [(900,some 900)]) zz2),by dsimp only;omega⟩
  refine zai ?_ ?_
  . simpa using d1
  (conv=>whnf);refine sOm ?_;refine zaj hw rfl (zw ?_)
  (refine cL ?_;refine dL (Paths.zlc w) ?_)
  by_cases d2:w.zak<w.window
  case neg =>
   refine zah ?_ ?_
   . simpa using d2
   conv=>whnf
   repeat refine sG ?_
   refine sF ?_;exact ⟨⟨(i+1,t,a'),by dsimp only;omega,by rw [hst,hno fun h=>d2 h.2],k3,k4,by dsimp only;omega⟩,(zbx (pK9 [(900,some 900)]) zz2),by dsimp only;omega⟩
  refine zai ?_ ?_
  . simpa using d2
  conv=>whnf
  repeat refine sG ?_
  refine sOm ?_
  (refine zac [] [(1000,1000),(1001,1001),(1002,1002),(1003,1003),(1004,1004),(1005,1005),(1006,1006),(1007,1007),(1008,900)] [(0,920)] ?_;(conv=>whnf);refine dG (zpb t a' i x w hx hw zz0) ?_)
  refine sF ?_;exact ⟨⟨(i+1,yfu t i 0 x w,a'++[x.chunk]),by dsimp only;omega,by rw [hst,hyes ⟨d1,d2⟩];rfl,by show (t.out.set i _).length=_;rw [zy25];exact k3,by show (t.paths.set 0 _).length=_;rw [zy25];exact k4,by simp;omega⟩,(zbx (pK9 [(900,some 920)]) zz2),by dsimp only;omega⟩
 case neg =>
  have hin:i=s.out.length:=by omega
  subst hin;refine sN ?_;rw [k2] at hag;subst hag
  (exact zcc (pK9 [(0,some 900)]))
theorem ymf (s:zab) (a b:List Chunk) (h3:s.out.length<2 ^ 28) (h4:s.paths.length=2) (ha:a.length+b.length<2 ^ 28) :
 zao Tryz.prog 95 [.ptr 1000 0] (lk .free (pH2 s a b)) (.tup [])
  (lk .free (xgi (again ⟨s,[a,b]⟩).s (xfx (again ⟨s,[a,b]⟩).out) (xna (again ⟨s,[a,b]⟩).out) 1001 1002 1003 1004 1005 1006 1007 0 1 [(1008,.dead),(1009,.dead)])):=by
 obtain ⟨hch,hch2⟩:=zeq (s:=s) zz0;have hc01:choose s=0\/choose s=1:=by omega
 rcases hc01 with hc0 | hc0
 case inl =>
  have pc:=Paths.zev s.paths zz0;rw [hch,hc0] at pc;have hag:again ⟨s,[a,b]⟩=(List.range s.out.length).foldl (zct 0) ⟨s,[a,b]⟩:=by rw [again,hc0]
  generalize again ⟨s,[a,b]⟩=G at hag ⊢;refine zan mixed Tryz.func95 zz5 [1000,1001,1002,1003,1004,1005,1006,1007,1008,1009] zbk ?_;(conv=>whnf)
  (refine cL ?_;refine dL pc ?_)
  refine ⟨{x:Nat×zab×List Chunk×List Chunk // x.1<=s.out.length/\(List.range x.1).foldl (zct 0) ⟨s,[a,b]⟩=⟨x.2.1,[x.2.2.1,x.2.2.2]⟩/\x.2.1.out.length=s.out.length/\x.2.1.paths.length=s.paths.length/\x.2.2.1.length+x.2.2.2.length<=a.length+b.length+x.1},
   fun | ⟨(i,t,a',b'),_⟩=>hsP [1000,1001,1002,1003,1004,1005,1006,1007,1008,1009] 51 [(0,.ptr 1000 0),(2,i64 0),(15,i64 s.out.length),(16,i64 i)] (xgi t a' b' 1001 1002 1003 1004 1005 1006 1007 900 901 [(1008,.dead),(1009,.dead)]),fun x=>s.out.length-x.1.1,⟨(0,s,a,b),by omega,rfl,rfl,rfl,by dsimp only;omega⟩,?_,?_⟩
  . exact (zbx (zig [(900,some 1008),(901,some 1009)]) zz2)
  rintro ⟨⟨i,t,a',b'⟩,k1,k2,k3,k4,k5⟩;dsimp only at k1 k2 k3 k4 k5;(conv=>whnf);by_cases hi:i<s.out.length
  case pos =>
   obtain ⟨x,hx⟩:∃ x,t.out[i]?=some x:=⟨_,zy2 zz0⟩
   obtain ⟨w,hw⟩:∃ w,t.paths[0]?=some w:=⟨_,zy2 zz0⟩
   have hst:=znr (zct 0) ⟨s,[a,b]⟩ i;rw [k2] at hst;have hno:=zud (o:=[a',b']) (c:=0) hx hw;have hyes:=zpj (o:=[a',b']) (c:=0) (l:=a') hx hw rfl;refine sT ?_;refine sO ?_;refine zaj hx rfl (zw ?_);by_cases d1:x.state=3
   case neg =>
    exact yy41
   refine zai ?_ ?_
   . simpa using d1
   (conv=>whnf);refine sOm ?_;refine zaj hw rfl (zw ?_)
   (refine cL ?_;refine dL (Paths.zlc w) ?_)
   by_cases d2:w.zak<w.window
   case neg =>
    exact yy42
   refine zai ?_ ?_
   . simpa using d2
   conv=>whnf
   repeat refine sG ?_
   refine sOm ?_
   (refine zac [] [(1000,1000),(1001,1001),(1002,1002),(1003,1003),(1004,1004),(1005,1005),(1006,1006),(1007,1007),(1008,900),(1009,901)] [(0,920)] ?_;(conv=>whnf);refine dG (zpc t a' b' i x w hx hw zz0) ?_)
   refine sF ?_;exact ⟨⟨(i+1,yfu t i 0 x w,a'++[x.chunk],b'),by dsimp only;omega,by rw [hst,hyes ⟨d1,d2⟩];rfl,by show (t.out.set i _).length=_;rw [zy25];exact k3,by show (t.paths.set 0 _).length=_;rw [zy25];exact k4,by simp;omega⟩,(zbx (zig ((900,some 920)::[(901,some 901)])) zz2),by dsimp only;omega⟩
  case neg =>
   exact yy88
 case inr =>
  have pc:=Paths.zev s.paths zz0;rw [hch,hc0] at pc;have hag:again ⟨s,[a,b]⟩=(List.range s.out.length).foldl (zct 1) ⟨s,[a,b]⟩:=by rw [again,hc0]
  generalize again ⟨s,[a,b]⟩=G at hag ⊢;refine zan mixed Tryz.func95 zz5 [1000,1001,1002,1003,1004,1005,1006,1007,1008,1009] zbk ?_;(conv=>whnf)
  (refine cL ?_;refine dL pc ?_)
  refine ⟨{x:Nat×zab×List Chunk×List Chunk // x.1<=s.out.length/\(List.range x.1).foldl (zct 1) ⟨s,[a,b]⟩=⟨x.2.1,[x.2.2.1,x.2.2.2]⟩/\x.2.1.out.length=s.out.length/\x.2.1.paths.length=s.paths.length/\x.2.2.1.length+x.2.2.2.length<=a.length+b.length+x.1},
   fun | ⟨(i,t,a',b'),_⟩=>hsP [1000,1001,1002,1003,1004,1005,1006,1007,1008,1009] 51 [(0,.ptr 1000 0),(2,i64 1),(15,i64 s.out.length),(16,i64 i)] (xgi t a' b' 1001 1002 1003 1004 1005 1006 1007 900 901 [(1008,.dead),(1009,.dead)]),fun x=>s.out.length-x.1.1,⟨(0,s,a,b),by omega,rfl,rfl,rfl,by dsimp only;omega⟩,?_,?_⟩
  . exact (zbx (zig [(900,some 1008),(901,some 1009)]) zz2)
  rintro ⟨⟨i,t,a',b'⟩,k1,k2,k3,k4,k5⟩;dsimp only at k1 k2 k3 k4 k5;(conv=>whnf);by_cases hi:i<s.out.length
  case pos =>
   obtain ⟨x,hx⟩:∃ x,t.out[i]?=some x:=⟨_,zy2 zz0⟩
   obtain ⟨w,hw⟩:∃ w,t.paths[1]?=some w:=⟨_,zy2 zz0⟩
   have hst:=znr (zct 1) ⟨s,[a,b]⟩ i;rw [k2] at hst;have hno:=zud (o:=[a',b']) (c:=1) hx hw;have hyes:=zpj (o:=[a',b']) (c:=1) (l:=b') hx hw rfl;refine sT ?_;refine sO ?_;refine zaj hx rfl (zw ?_);by_cases d1:x.state=3
   case neg =>
    exact yy41
   refine zai ?_ ?_
   . simpa using d1
   (conv=>whnf);refine sOm ?_;refine zaj hw rfl (zw ?_)
   (refine cL ?_;refine dL (Paths.zlc w) ?_)
   by_cases d2:w.zak<w.window
   case neg =>
    exact yy42
   refine zai ?_ ?_
   . simpa using d2
   conv=>whnf
   repeat refine sG ?_
   refine sOm ?_
   (refine zac [] [(1000,1000),(1001,1001),(1002,1002),(1003,1003),(1004,1004),(1005,1005),(1006,1006),(1007,1007),(1008,900),(1009,901)] [(0,920)] ?_;(conv=>whnf);refine dG (zpd t a' b' i x w hx hw zz0) ?_)
   refine sF ?_;exact ⟨⟨(i+1,yfu t i 1 x w,a',b'++[x.chunk]),by dsimp only;omega,by rw [hst,hyes ⟨d1,d2⟩];rfl,by show (t.out.set i _).length=_;rw [zy25];exact k3,by show (t.paths.set 1 _).length=_;rw [zy25];exact k4,by simp;omega⟩,(zbx (zig ((900,some 900)::[(901,some 920)])) zz2),by dsimp only;omega⟩
  case neg =>
   exact yy88
end Snd
theorem yby {rows ys:List (List PV)} {z:List PV} {i j a k m:Nat} (hij:i<=j) (hj:j<=rows.length) (ha:a=i) (hy:ys=(rows.drop j).take (rows.length-j)) (hk:k=i+ys.length) (hm:m=j-i) (_:i+ys.length+(j-i)=rows.length) :
 zcp (zcp rows a ys) k (List.replicate m z)=rows.take i++rows.drop j++List.replicate (j-i) z:=by
 subst ha hm;have hy2:ys=rows.drop j:=by rw [hy,zy34 (by simp)]
 have h1:ys.length=rows.length-j:=by rw [hy2];simp
 have h2:(rows.take a).length=a:=by simp;omega
 have h3:zcp rows a ys=(rows.take a++ys)++rows.drop k:=by rw [zcp,hk]
 have h4:(rows.take a++ys).length=k:=by simp;omega
 rw [zcp,h3,zy101 h4,zy36 (by simp only [zy4,zy37,zy57,h2];omega),zy9,hy2]
theorem xcp {rows ys zs:List (List PV)} {a b k:Nat} (hk:k<rows.length) (ha:a=k+1) (hy:ys=rows.drop k) (hb:b=k) (hz:zs.length=1):zcp (zcp rows a ys) b zs=rows.take k++zs++rows.drop k:=by
 subst ha hy hb;have h1:zcp rows (b+1) (rows.drop b)=rows.take (b+1)++rows.drop b:=by
  rw [zcp,zy36 (i:=b+1+(rows.drop b).length) (by simp;omega),zy9]
 have h2:(rows.take (b+1)).length=b+1:=by simp;omega
 rw [zcp,h1,hz,List.drop_left' h2,zy79 (by omega),List.take_take,Nat.min_eq_left (by omega)]
theorem xco {rows ys zs:List (List PV)} {z:List PV} {a b k m:Nat} (hk:k<rows.length) (hm:m=rows.length+1-k) (ha:a=k) (hz:zs.length=1) (hb:b=k+1) (hy:ys=rows.drop k) :
 zcp (zcp (rows.take k++List.replicate m z) a zs) b ys=rows.take k++zs++rows.drop k:=by
 subst hm ha hb hy;have h1:(rows.take a).length=a:=by simp;omega
 have h2:zcp (rows.take a++List.replicate (rows.length+1-a) z) a zs=(rows.take a++zs)++(rows.take a++List.replicate (rows.length+1-a) z).drop (a+1):=by
  rw [zcp,zy101 h1,hz]
 have h3:(rows.take a++zs).length=a+1:=by simp;omega
 rw [zcp,h2,zy101 h3,zy36 (i:=a+1+_) (by simp;omega),zy9]
theorem xrm {α:Type} {f:α->List PV} {v:α} {m:Nat} {l r:List α} (h:0<m):(l.map f++[f v].take m)++r.map f=(l++v::r).map f:=by
 rw [zy34 (by simp;omega),zy40,zy27,zy24];rfl
theorem xnj {α:Type} {f:α->List PV} {v:α} {m k:Nat} {l:List α} (h:0<m):(l.map f).take k++[f v].take m++(l.map f).drop k=(l.take k++v::l.drop k).map f:=by
 rw [<- zy125,<- zy106];exact xrm h
def zvm (cmp:Span->Int) (l:List Span) (K:Nat):Bool:=match l[K]? with | some s=>cmp s==0 | none=>false
theorem xkj {g:FuncId} {cmp:Span->Int} {n:Int} (hg:∀ m:Span,zao Tryz.prog g [m.hv,i64 n] zaf (i64 (cmp m)) zaf) (l:List Span) (K:Nat) (hK:K<=l.length) (hm:∀ (i:Nat) (h:i<l.length),cmp l[i]<0↔i<K) (hb:l.length<2 ^ 40) :
 zao Tryz.prog 195 [Ser.zaq l,i64 n,.clo g []] zaf (.tup [i64 K,zbm (zvm cmp l K)]) zaf:=by
 refine zap mixed Tryz.func195 zz5 ?_;(conv=>whnf);refine ⟨{x:Nat×Nat // x.1<=K/\K<=x.2/\x.2<=l.length},fun | ⟨(i,j),_⟩=>hs 49 [(0,Ser.zaq l),(1,i64 n),(2,.clo g []),(8,i64 l.length),(9,i64 i),(10,i64 j)] [],fun x=>x.1.2-x.1.1,⟨(0,l.length),by simp,hK,zy19 _⟩,?_,?_⟩
 . exact (zem [])
 rintro ⟨⟨i,j⟩,h1,h2,h3⟩;dsimp only at h1 h2 h3;(conv=>whnf);by_cases c:i<j
 . have hlt:(i+j) / 2<l.length:=by omega
   refine sT ?_;refine sF ?_;refine zbn (zvb zz0 zz0) (zw ?_);refine zaa zz5 (zw ?_);refine zbn (z':=(((i+j) / 2:Nat):Int)) ?_ ?_
   . show W (((i:Int)+j) / 2)=_
     rw [zbg (by omega) (by omega)];omega
   (conv=>whnf);refine zdw ((i+j) / 2) rfl hlt (zw ?_)
   (refine cZ ?_;refine dL (hg l[(i+j) / 2]) ?_)
   by_cases c2:cmp l[(i+j) / 2]<0
   . have hk:=(hm _ hlt).1 c2
     refine sT ?_;refine sF ?_;exact ⟨⟨((i+j) / 2+1,j),hk,h2,h3⟩,(zem []),by dsimp only;omega⟩
   . have hk:¬ (i+j) / 2<K:=fun h=>c2 ((hm _ hlt).2 h)
     refine sN ?_;exact ⟨⟨(i,(i+j) / 2),h1,by dsimp only;omega,by dsimp only;omega⟩,(zem []),by dsimp only;omega⟩
 . have hi:i=K:=by omega
   subst hi;refine sN ?_;by_cases c2:i<l.length
   . refine sT ?_
     refine zdw i rfl c2 (zw ?_)
     (refine cZ ?_;refine dL (hg l[i]) ?_)
     rw [zvm,zy2 c2]
   . refine sN ?_
     rw [zvm,zy52 (by omega)]
theorem yrq (l:List Span) (i j:Nat) (hij:i<=j) (hj:j<=l.length) (hb:l.length<2 ^ 40) :
 zao Tryz.prog 198 [.osl 1000 2 0 (l.map Span.row).length,i64 i,i64 j] (lk .free [(1000,.live (.row 199 2 (l.map Span.row)))])
  (.osl 1000 2 0 (l.length-(j-i))) (lk .free [(1000,.live (.row 199 2 ((l.take i++l.drop j).map Span.row++List.replicate (j-i) [pi 0,pi 0])))]):=by
 refine zan mixed Tryz.func198 zz5 [1000] zbk ?_;have hlr:(l.map Span.row).length=l.length:=by simp
 (conv=>whnf);refine sO ?_;by_cases h:i=j
 . subst h
   refine sT ?_;refine zam [(1000,some 1000)] rfl rfl ⟨rfl,trivial⟩ rfl ?_ ⟨⟨rfl,.inl ⟨1000,rfl,?_⟩⟩,trivial⟩
   . show HV.osl 1000 2 0 (l.length-(i-i))=HV.osl 1000 2 0 (l.map Span.row).length
     rw [hlr,zy91];rfl
   . show zad.live (.row _ 2 (l.map Span.row))=zad.live (.row _ 2 _)
     rw [zy28,zy91,zy151,zy9]
 . refine sN ?_
   refine sO ?_;refine sO ?_;refine ⟨_,rfl,?_,?_⟩
   . rw [hlr];omega
   (conv=>whnf);refine zaa zz4 ?_;(conv=>whnf);refine zbi ?_ ?_
   . kernel_rfl
   (conv=>whnf);refine zaa zz37 ?_;(conv=>whnf);refine zaa zz37 ?_;(conv=>whnf);refine zam [(1000,some 1000)] rfl rfl ⟨rfl,trivial⟩ rfl ?_ ⟨⟨rfl,.inl ⟨1000,rfl,?_⟩⟩,trivial⟩
   . show HV.osl 1000 2 0 _=HV.osl 1000 2 0 _
     congr 1;simp;omega
   . refine (congrArg (fun r=>zad.live (.row _ 2 r)) (yby (rows:=l.map Span.row) (i:=i) (j:=j) (z:=[pi 0,pi 0]) hij (by rw [hlr];exact hj) ?_ ?_ ?_ ?_ ?_)).trans ?_
     . simp<;>omega
     . simp<;>omega
     . simp<;>omega
     . simp;omega
     . simp;omega
     . rw [zy40,zy125,zy106];rfl
theorem xbo (l:List Span) (i j:Nat) (hij:i<=j) (hj:j<=l.length) (hb:l.length<2 ^ 40) :
 zao Tryz.prog 198 [.own 1000,i64 i,i64 j] (lk .free [(1000,.live (.row 199 2 (l.map Span.row)))])
  (.own 0) (lk .free [(1000,.dead),(0,.live (.row 199 2 ((l.take i++l.drop j).map Span.row)))]):=by
 have h:=zko (d:=0) (L:=[]) (rows:=(l.take i++l.drop j).map Span.row++List.replicate (j-i) [pi 0,pi 0]) (zwi (yrq l i j hij hj hb)) (.inl rfl) zz4 rfl zz5
 rwa [zy101 zz4] at h
theorem zjm (a b:List Span) (x:Span) (i j:Int) (hi:i=a.length) (hj:j=a.length+1) (hb:(a++x::b).length<2 ^ 40) :
 zao Tryz.prog 198 [.own 1000,i64 i,i64 j] (lk .free [(1000,.live (.row 199 2 ((a++x::b).map Span.row)))])
  (.own 0) (lk .free [(1000,.dead),(0,.live (.row 199 2 ((a++b).map Span.row)))]):=by
 subst hi hj;have h:=xbo (a++x::b) a.length (a.length+1) zz0 zz3 hb
 rwa [zy161,show (a++x::b).drop (a.length+1)=b by rw [<- zy117,zy118];rfl,zy131] at h
theorem ykl {inp out:List Span} (a b:List Span) (x:Span) (i j:Int) (h1:inp=a++x::b) (h2:out=a++b) (hi:i=a.length) (hj:j=a.length+1) (hb:inp.length<2 ^ 40) :
 zao Tryz.prog 198 [.own 1000,i64 i,i64 j] (lk .free [(1000,.live (.row 199 2 (inp.map Span.row)))])
  (.own 0) (lk .free [(1000,.dead),(0,.live (.row 199 2 (out.map Span.row)))]):=by
 subst h1 h2;exact zjm a b x i j hi hj hb
theorem xjq {H:Nat->zad} {i1 i2 n o l:Nat} {t1 n1 t2 n2 c:Nat} {r1 r2:List (List PV)} (h1:H i1=.live (.row t1 n1 r1)) (h2:H i2=.live (.buf t2 n2 r2 c)) (hne:i1≠i2) :
 Ov Tryz.prog 204 [.own i1,.osl i2 n o l] H ⟨zbm false,[],[i1,i2]⟩:=by
 obtain ⟨inf,hi,hs⟩:=zy32.1 (show (Tryz.prog.info? 199).map (·.size)=some 2 by kernel_rfl);exact ⟨Tryz.f204,199,inf,_,_,i1,i2,_,_,Tryz.func204,rfl,by decide,by kernel_rfl,by kernel_rfl,⟨33,rfl,by kernel_rfl⟩,hi,by rw [hs];decide,rfl,.inl rfl,.inr ⟨_,_,_,rfl⟩,hne,h1,h2,by simp,by simp,rfl⟩
theorem ygw (l:List Span) (v:Span) (hb:l.length<2 ^ 40) :
 zao Tryz.prog 197 [.own 1000,i64 l.length,.own 1001] (lk .free [(1000,.live (.row 199 2 (l.map Span.row))),(1001,.live (.row 199 2 [v.row]))])
  (.own 0) (lk .free [(1000,.dead),(0,.live (.row 199 2 ((l++[v]).map Span.row))),(1001,.dead)]):=by
 refine zan mixed Tryz.func197 zz5 [1000,1001] (fun i=>by rcases zbk (L:=[(1000,zad.live (.row 199 2 (l.map Span.row))),(1001,.live (.row 199 2 [v.row]))]) i with h | h;exact .inl h;exact .inr h) ?_;have hlr:(l.map Span.row).length=l.length:=by simp
 (conv=>whnf);refine sO ?_;refine sT ?_;refine zaa (c:=((l.map Span.row).length+[v.row].length)*16<=140737488355328) zz4 (zw ?_);refine zam [(1000,some 1000),(0,some 25),(1001,some 1001)] rfl rfl ⟨rfl,rfl,trivial⟩ rfl rfl ⟨rfl,⟨rfl,.inl ⟨25,rfl,?_⟩⟩,rfl,trivial⟩;exact zce (f:=Span.row) rfl rfl
theorem ygx (l:List Span) (k:Nat) (v:Span) (hk:k<l.length) (hb:l.length<2 ^ 40) :
 zao Tryz.prog 197 [.own 1000,i64 k,.own 1001] (lk .free [(1000,.live (.row 199 2 (l.map Span.row))),(1001,.live (.row 199 2 [v.row]))])
  (.own 0) (lk .free [(1000,.dead),(0,.live (.row 199 2 ((l.take k++v::l.drop k).map Span.row))),(1001,.dead)]):=by
 have hlr:(l.map Span.row).length=l.length:=by simp
 refine yvy (by intro h;rw [h] at hlr;simp at hlr;omega) fun cap hc1 hc2=>?_
 rw [hlr] at hc1;by_cases hc:l.length+1<=cap
 . have hw:=zko (P:=Tryz.prog) (f:=197) (args:=[.osl 1000 2 0 (l.map Span.row).length,i64 k,.own 1001]) (H:=lk .free [(1000,.live (.buf 199 2 (l.map Span.row) cap)),(1001,.live (.row 199 2 [v.row]))])
    (id:=1000) (d:=0) (b:=.buf 199 2 ((l.take k++v::l.drop k).map Span.row) cap) (t:=199) (n:=2) (k:=l.length+1) (rows:=(l.take k++v::l.drop k).map Span.row) (L:=[(1001,.dead)]) ?_ (.inr ⟨cap,rfl⟩) zz4 rfl zz5
   . rwa [zy34 zz4] at hw
   refine zan mixed Tryz.func197 zz5 [1000,1001] (fun i=>by rcases zbk (L:=[(1000,zad.live (.buf 199 2 (l.map Span.row) cap)),(1001,.live (.row 199 2 [v.row]))]) i with h | h;exact .inl h;exact .inr h) ?_;(conv=>whnf);refine sO ?_;refine sN ?_;refine zau (z:=((l.map Span.row).length:Int)+1) (zbg zz0 zz0) (zw ?_);refine zaa zz0 (zw ?_);refine sN ?_;refine zau (z:=((l.map Span.row).length:Int)+1) (zbg zz0 zz0) (zw ?_);refine sO ?_;refine zbn (z':=((k+1:Nat):Int)) ?_ ?_
   . show W ((k:Int)+1)=_
     rw [zbg (by omega) (by omega)];push_cast;rfl
   (conv=>whnf);refine sO ?_;refine xcb (xjq rfl rfl zz5) (zw ?_);refine zbn (z':=((k+1:Nat):Int)) ?_ ?_
   . show W ((k:Int)+1)=_
     rw [zbg (by omega) (by omega)];push_cast;rfl
   (conv=>whnf);refine sO ?_;refine sO ?_;refine zke (o':=k) (n':=l.length-k) zz3 ?_ ?_
   . show min _ _=l.length-k
     simp;omega
   refine zpz (l:=l) zz0 ?_;(conv=>whnf);refine sOm ?_;refine zbi ?_ ?_
   . kernel_rfl
   (conv=>whnf);refine sO ?_;refine zaa zz37 (zw ?_);refine zam [(1000,some 1000),(1001,some 1001)] rfl rfl ⟨rfl,rfl,trivial⟩ rfl ?_ ⟨⟨rfl,.inl ⟨1000,rfl,?_⟩⟩,rfl,trivial⟩
   . show HV.osl 1000 2 0 _=HV.osl 1000 2 0 _
     congr 1;simp
   . refine (congrArg (fun r=>zad.live (.buf _ 2 r cap)) (xcp (rows:=l.map Span.row) (k:=k) zz0 ?_ ?_ ?_ ?_)).trans ?_
     . simp<;>omega
     . rw [zy106]
     . simp<;>omega
     . simp<;>omega
     . refine congrArg (fun r=>zad.live (.buf _ 2 r cap)) (xnj (f:=Span.row) ?_)
       simp;omega
 . refine zan mixed Tryz.func197 zz5 [1000,1001] (fun i=>by rcases zbk (L:=[(1000,zad.live (.buf 199 2 (l.map Span.row) cap)),(1001,.live (.row 199 2 [v.row]))]) i with h | h;exact .inl h;exact .inr h) ?_
   (conv=>whnf);refine sO ?_;refine sN ?_;refine zau (z:=((l.map Span.row).length:Int)+1) (zbg zz0 zz0) (zw ?_);refine zaa zz0 (zw ?_);refine sT ?_;refine sO ?_;refine zau (z:=((l.map Span.row).length:Int)+1) (zbg zz0 zz0) (zw ?_);refine zbn (z':=((l.length+1-k:Nat):Int)) ?_ ?_
   . show W (((l.map Span.row).length:Int)+1-k)=_
     rw [zbg (by omega) (by omega)];omega
   (conv=>whnf);refine zaa (show 0<=_/\_<=_/\_<_/\_<=_/\(_:Int)*16<=(140737488355328:Int) from ?_) ?_
   . simp;omega
   (conv=>whnf);refine zaa ?_ ?_
   . simp;omega
   (conv=>whnf);refine zaa zz37 (zw ?_);refine zbn (z':=((k+1:Nat):Int)) ?_ ?_
   . show W ((k:Int)+1)=_
     rw [zbg (by omega) (by omega)];push_cast;rfl
   (conv=>whnf);refine zaa zz37 (zw ?_);refine zaa zz37 (zw ?_);refine zke (o':=k) (n':=l.length-k) zz3 ?_ ?_
   . show min _ _=l.length-k
     simp [zcp];omega
   refine zpz (l:=l) zz0 ?_;(conv=>whnf);refine zaa zz37 (zw ?_);refine zbi ?_ ?_
   . kernel_rfl
   (conv=>whnf);refine zam [(1000,some 1000),(0,some 40),(1001,some 1001)] rfl rfl ⟨rfl,rfl,trivial⟩ rfl rfl ⟨rfl,⟨rfl,.inl ⟨40,rfl,?_⟩⟩,rfl,trivial⟩;refine (congrArg (fun r=>zad.live (.row _ 2 r)) (xco (rows:=l.map Span.row) (k:=k) zz0 ?_ ?_ ?_ ?_ ?_)).trans ?_
   . simp
   . simp
   . simp;omega
   . simp
   . rw [zy106]
   . refine congrArg (fun r=>zad.live (.row _ 2 r)) (xnj (f:=Span.row) ?_)
     simp;omega
theorem ylg (a b:List Span) (v:Span) (k:Int) (hk:k=a.length) (hb:(a++b).length<2 ^ 40) :
 zao Tryz.prog 197 [.own 1000,i64 k,.own 1001] (lk .free [(1000,.live (.row 199 2 ((a++b).map Span.row))),(1001,.live (.row 199 2 [v.row]))])
  (.own 0) (lk .free [(1000,.dead),(0,.live (.row 199 2 ((a++v::b).map Span.row))),(1001,.dead)]):=by
 subst hk;cases b with
 | nil =>
  rw [zy9] at hb ⊢;exact ygw a v hb
 | cons x b =>
  have h:=ygx (a++x::b) a.length v zz3 hb
  rwa [zy161,zy118] at h
namespace Snd
open Ser
theorem xme (l:List zae) (i j:Nat) (hij:i<=j) (hj:j<=l.length) (hb:l.length<2 ^ 40) :
 zao Tryz.prog 139 [.osl 1000 10 0 (l.map zae.row).length,i64 i,i64 j] (lk .free [(1000,.live (.row 117 10 (l.map zae.row)))])
  (.osl 1000 10 0 (l.length-(j-i))) (lk .free [(1000,.live (.row 117 10 ((l.take i++l.drop j).map zae.row++List.replicate (j-i) [pi 0,pi 0,pi 0,pi 0,pi 0,pi 0,pb false,pi 0,pi 0,.v (.slice none 0 0)])))]):=by
 refine zan mixed Tryz.func139 zz5 [1000] zbk ?_;have hlr:(l.map zae.row).length=l.length:=by simp
 (conv=>whnf);refine sO ?_;by_cases h:i=j
 . subst h
   refine sT ?_;refine zam [(1000,some 1000)] rfl rfl ⟨rfl,trivial⟩ rfl ?_ ⟨⟨rfl,.inl ⟨1000,rfl,?_⟩⟩,trivial⟩
   . show HV.osl 1000 10 0 (l.length-(i-i))=HV.osl 1000 10 0 (l.map zae.row).length
     rw [hlr,zy91];rfl
   . show zad.live (.row _ 10 (l.map zae.row))=zad.live (.row _ 10 _)
     rw [zy28,zy91,zy151,zy9]
 . refine sN ?_
   refine sO ?_;refine sO ?_;refine ⟨_,rfl,?_,?_⟩
   . rw [hlr];omega
   (conv=>whnf);refine zaa zz4 ?_;(conv=>whnf);refine zbi ?_ ?_
   . kernel_rfl
   (conv=>whnf);refine zaa zz37 ?_;(conv=>whnf);refine zaa zz37 ?_;(conv=>whnf);refine zam [(1000,some 1000)] rfl rfl ⟨rfl,trivial⟩ rfl ?_ ⟨⟨rfl,.inl ⟨1000,rfl,?_⟩⟩,trivial⟩
   . show HV.osl 1000 10 0 _=HV.osl 1000 10 0 _
     congr 1;simp;omega
   . refine (congrArg (fun r=>zad.live (.row _ 10 r)) (yby (rows:=l.map zae.row) (i:=i) (j:=j) (z:=[pi 0,pi 0,pi 0,pi 0,pi 0,pi 0,pb false,pi 0,pi 0,.v (.slice none 0 0)]) hij (by rw [hlr];exact hj) ?_ ?_ ?_ ?_ ?_)).trans ?_
     . simp<;>omega
     . simp<;>omega
     . simp<;>omega
     . simp;omega
     . simp;omega
     . rw [zy40,zy125,zy106];rfl
theorem xln (l:List zae) (i j:Nat) (hij:i<=j) (hj:j<=l.length) (hb:l.length<2 ^ 40) :
 zao Tryz.prog 139 [.own 1000,i64 i,i64 j] (lk .free [(1000,.live (.row 117 10 (l.map zae.row)))])
  (.own 0) (lk .free [(1000,.dead),(0,.live (.row 117 10 ((l.take i++l.drop j).map zae.row)))]):=by
 have h:=zko (d:=0) (L:=[]) (rows:=(l.take i++l.drop j).map zae.row++List.replicate (j-i) [pi 0,pi 0,pi 0,pi 0,pi 0,pi 0,pb false,pi 0,pi 0,.v (.slice none 0 0)]) (zwi (xme l i j hij hj hb)) (.inl rfl) zz4 rfl zz5
 rwa [zy101 zz4] at h
theorem zla (s:ziu) (m:zae) (bytes:Int) (yul:Bool) (hb:s.had.length<2 ^ 40) (c2:0<=m.message.stream) (c3:m.message.stream<s.had.length) :
 zao Tryz.prog 138 [s.hv,m.hv,i64 bytes,zbm yul] zaf (.agg [i64 (Sch.had s m bytes yul).last,i64 (Sch.had s m bytes yul).hand,.own 0]) (lk .free [(0,ytc (Sch.had s m bytes yul).had)]):=by
 have hy:(s.had.map fun n=>[pi n]).set m.message.stream.toNat [pi (W (s.had[m.message.stream.toNat]+bytes))]=(Sch.had s m bytes yul).had.map fun n=>[pi n]:=by
  simp only [Sch.had,zy1 (And.intro c2 c3)];rw [zy110,zy2 (by omega)]
  rfl
 refine zan mixed Tryz.func138 zz5 [] (fun _=>.inl rfl) ?_;(conv=>whnf)
 (refine zat [(0,11)] ?_;(conv=>whnf);refine dO (Sch.zdm s hb) ?_)
 refine sD ?_;refine zag (fun c1=>?_) (fun c1=>?_)
 all_goals
  subst c1;(conv=>whnf)
  repeat refine sG ?_
  refine zai ?_ ?_
  . simpa using c2
  (conv=>whnf);refine zai ?_ ?_
  . simpa using c3
  conv=>whnf
  repeat refine sG ?_
  refine sOm ?_;refine zbz (r:=[pi s.had[m.message.stream.toNat]]) zz0 (by rw [zy38,zy13,zy2 (h:=show m.message.stream.toNat<s.had.length by omega)];rfl) ?_;(conv=>whnf);refine zcx (zw ?_);refine sOm ?_;refine zbz (r:=[pi s.had[m.message.stream.toNat]]) zz0 (by rw [zy38,zy13,zy2 (h:=show m.message.stream.toNat<s.had.length by omega)];rfl) ?_;(conv=>whnf);refine zam [(0,some 11)] rfl rfl trivial rfl rfl ⟨⟨rfl,.inl ⟨11,rfl,?_⟩⟩,trivial⟩;exact zar hy
theorem ywz {α:Type} {p:α->Bool}:∀ {l:List α} {k:Nat},0<=zbs p k l->∃ i,i<l.length/\zbs p k l=((k+i:Nat):Int)
 | [],k,h=>by simp [zbs] at h
 | y::r,k,h=>by
  simp only [zbs] at h ⊢;split at h
  . rename_i hp;exact ⟨0,by simp,by rw [zy1 hp];simp⟩
  . rename_i hp
    obtain ⟨i,h1,h2⟩:=ywz h;exact ⟨i+1,by simp;omega,by rw [zy0 hp,h2];congr 1;omega⟩
theorem ymr {t:Int} {s:ziu} {q:List zae} (h:0<=Sch.next t s q):∃ k:Nat,k<q.length/\Sch.next t s q=k:=by
 have hf:∀ st,0<=Sch.first q st->∃ k:Nat,k<q.length/\Sch.first q st=k:=fun st h=>by
  obtain ⟨i,h1,h2⟩:=ywz h;exact ⟨i,h1,by rw [Sch.first,h2];simp⟩
 have ha:∀ (j k:Nat) (last n:Int),0<=Sch.after q last n k j->∃ i:Nat,i<q.length/\Sch.after q last n k j=i:=by
  intro j
  induction j with
  | zero=>intro k last n h;simp [Sch.after] at h
  | succ j ih =>
   intro k last n h;rw [Sch.after] at h ⊢;split at h
   . rename_i c;rw [zy1 c];exact hf _ h
   . rename_i c;rw [zy0 c];exact ih _ _ _ h
 have hr:∀ (j k:Nat),0<=Sch.zer q k j->∃ i:Nat,i<q.length/\Sch.zer q k j=i:=by
  intro j
  induction j with
  | zero=>intro k h;simp [Sch.zer] at h
  | succ j ih =>
   intro k h;rw [Sch.zer] at h ⊢;split at h
   . rename_i c;rw [zy1 c];exact hf _ h
   . rename_i c;rw [zy0 c];exact ih _ h
 unfold Sch.next at h ⊢;split at h
 . omega
 rename_i c0;rw [zy0 c0];split at h
 . omega
 rename_i c1;rw [zy0 c1];split at h
 . rename_i c;rw [zy1 c]
   split at h
   . rename_i c;rw [zy1 c];obtain ⟨i,h1,h2⟩:=ywz h;exact ⟨i,h1,by rw [Sch.zwp,h2];simp⟩
   . rename_i c;rw [zy0 c];exact ha _ _ _ _ h
 rename_i c;rw [zy0 c];split at h
 . rename_i c;rw [zy1 c];exact ha _ _ _ _ h
 rename_i c;rw [zy0 c];split at h
 . rename_i c;rw [zy1 c];exact hr _ _ h
 rename_i c;rw [zy0 c];split at h
 . rename_i c;rw [zy1 c];unfold Sch.least at h ⊢
   split at h
   . omega
   . rename_i c;rw [zy0 c];exact hf _ h
 . rename_i c;rw [zy0 c];exact ⟨0,by omega,rfl⟩
structure zva (s:zab) (m:zae):Prop where
 mid:xpr s m
 had:m.message.stream<s.sched.had.length
 sent:0<=m.sent
 left:m.sent<m.message.data.length
 data:m.message.data.length<2 ^ 30
structure xlu (s:zab):Prop where
 g:ymt s
 some:0<s.paths.length
 part:1<=s.config.part
 part2:s.config.part<2 ^ 30
 msg:∀ m∈s.queue,zva s m
def nx (s:zab) (o:List (List Chunk)):zfs×Bool:=match next ⟨s,o⟩ with
 | none=>(⟨s,o⟩,false)
 | some q=>(q,true)
theorem yxz {s:zab} {o:List (List Chunk)} (h:zdh s<0):nx s o=(⟨s,o⟩,false):=by
 rw [nx,next,zy1 (.inl h)]
theorem yya {s:zab} {o:List (List Chunk)} {w:Path} (hw:s.paths[choose s]?=some w) (h:¬ w.zak<w.window):nx s o=(⟨s,o⟩,false):=by
 rw [nx,next,zy1 (.inr (.inl (by simp only [opened,hw];simpa using h)))]
theorem yyb {s:zab} {o:List (List Chunk)} (h:(s.out.length:Int)>=60):nx s o=(⟨s,o⟩,false):=by
 rw [nx,next,zy1 (.inr (.inr h))]
theorem yyc {s:zab} {o:List (List Chunk)} {w:Path} {k:Nat} {m:zae} (h1:zdh s=k) (hm:s.queue[k]?=some m) (hw:s.paths[choose s]?=some w) (h2:w.zak<w.window) (h3:¬ (s.out.length:Int)>=60) (h4:zak s>0/\W (zak s+many s m)>s.room) :
 nx s o=(⟨s,o⟩,false):=by
 rw [nx,next,zy0 (by rw [h1];rintro (h | h | h);omega;(simp only [opened,hw] at h;simp at h;omega);exact h3 h)];simp only [h1,zy38,hm];rw [zy1 h4]
theorem yak {s:zab} {o:List (List Chunk)} {w:Path} {k:Nat} {m:zae} (h1:zdh s=k) (hm:s.queue[k]?=some m) (hw:s.paths[choose s]?=some w) (h2:w.zak<w.window) (h3:¬ (s.out.length:Int)>=60) (h4:¬ (zak s>0/\W (zak s+many s m)>s.room)) :
 nx s o=(ylq ⟨s,o⟩ k m (many s m),true):=by
 rw [nx,next,zy0 (by rw [h1];rintro (h | h | h);omega;(simp only [opened,hw] at h;simp at h;omega);exact h3 h)];simp only [h1,zy38,hm];rw [zy0 h4]
theorem zru {s:zab} {m:zae} (hp:1<=s.config.part) (hp2:s.config.part<2 ^ 30) (_:0<=m.sent) (h2:m.sent<m.message.data.length) (_:m.message.data.length<2 ^ 30):1<=many s m/\many s m<2 ^ 30/\m.sent+many s m<=m.message.data.length:=by
 unfold many;split<;>omega
abbrev ovr (s:zab) (m:zae):Bool:=m.sent+many s m==((m.message.data.map zef).length:Int)
theorem xgc (s:zab) (m:zae):decide (m.sent+many s m=m.message.data.length)=ovr s m:=by
 unfold ovr;rw [zy3,zy152];simp
def m2 (s:zab) (m:zae):zae:={m with mid:=zbt s m,sent:=m.sent+many s m,parts:=W (m.parts+1)}
def x0 (s:zab) (m:zae):zbr:=⟨s.next,m.id,0,0,0,0,m.came,m.message.life,m.message.tries,⟨1,tag s.next,m.message.stream,tag (zbt s m),m.parts,ovr s m,m.message.ordered,(m.message.data.drop m.sent.toNat).take (many s m).toNat,[],0,[]⟩⟩
def s2 (s:zab) (k:Nat) (m:zae):zab:={s with mids:=zcz s m,sched:=Sch.had s.sched {m with mid:=zbt s m} (many s m) (ovr s m),out:=s.out++[x0 s m],next:=W (s.next+1),queue:=s.queue.set k (m2 s m)}
theorem zfz {s:zab} {o:List (List Chunk)} {k c:Nat} {m:zae} {w:Path} {l:List Chunk} (hc:choose s=c) (hw:s.paths[c]?=some w) (hl:o[c]?=some l) :
 ylq ⟨s,o⟩ k m (many s m)=⟨{yfu (s2 s k m) s.out.length c (x0 s m) w with queue:=if ovr s m then s.queue.eraseIdx k else s.queue.set k (m2 s m)},o.set c (l++[(x0 s m).chunk])⟩:=by
 have e:=xgc s m;unfold ylq cut;simp only [e];rw [hc];exact xfi (s:={s2 s k m with queue:=if ovr s m then s.queue.eraseIdx k else s.queue.set k (m2 s m)}) (i:=s.out.length) (x:=x0 s m) (a:=w) (l:=l) zz80 hw hl
theorem ytb {s:zab} {k:Nat} {m:zae} {t:TypeId} {r1:List PV}:zad.live (.row t 10 ((((zjc s k m).queue.map zae.row).set k r1).set k (m2 s m).row))=zad.live (.row t 10 ((s2 s k m).queue.map zae.row)):=by
 rw [zy157];exact (zfj (f:=zae.row) (y:=m2 s m) rfl).trans (zar (by show ((s.queue.set k _).set k _).map _=_;rw [zy157];rfl))
theorem zkn {α:Type} {l:List α} {k:Nat} {y:α} (_:k<l.length):(l.set k y).take k++(l.set k y).drop (k+1)=l.eraseIdx k:=by
 rw [zy96,List.take_set_of_le (zy19 _),List.drop_set_of_lt (zy170 _)]
theorem zsm (s:zab) (a:List Chunk) (hs:xlu s) (h1p:s.paths.length=1) (hb:a.length<2 ^ 29):zao Tryz.prog 96 [.ptr 1000 0] (lk .free (pH1 s a)) (zbm (nx s [a]).2) (lk .free (pD1 (nx s [a]).1.s (xfx (nx s [a]).1.out))):=by
 obtain ⟨g,hp,hp1,hp2,hmsg⟩:=hs;obtain ⟨⟨f1,f2,f3,f4,f5,f6,f7⟩,g2,g3,g4⟩:=g;obtain ⟨hch,hch2⟩:=zeq hp;have hc0:choose s=0:=by omega
 have pc:=Paths.zev s.paths zz0;rw [hch,hc0] at pc;have pn:=Sch.zya s.config.turns s.sched s.queue zz0 zz0;obtain ⟨w,hw⟩:∃ w,s.paths[0]?=some w:=⟨_,zy2 zz0⟩
 have hwc:s.paths[choose s]?=some w:=by rw [hc0];exact hw
 generalize hG:nx s [a]=G;refine zan mixed Tryz.func96 zz5 [1000,1001,1002,1003,1004,1005,1006,1007,1008] zbk ?_;(conv=>whnf)
 (refine cL ?_;refine dL pc ?_)
 by_cases c1:zdh s<0
 case pos =>
  (refine cL ?_;refine dL pn ?_)
  refine sD ?_;refine zai ?_ ?_
  . exact zy12 c1
  (conv=>whnf);rw [yxz c1] at hG;exact yy20
 obtain ⟨k,hkl,hke⟩:=ymr (t:=s.config.turns) (s:=s.sched) (q:=s.queue) zz92;have hke':zdh s=k:=hke;rw [hke] at pn;obtain ⟨m,hm⟩:∃ m,s.queue[k]?=some m:=⟨_,zy2 hkl⟩
 have hmf:=hmsg m (zy5 hm);obtain ⟨mf,mh,ms,ml,md⟩:=hmf;obtain ⟨n1,n2,n3⟩:=zru (s:=s) (m:=m) hp1 hp2 ms ml md
 (refine cL ?_;refine dL pn ?_)
 refine sD ?_
 try (refine zah ?_ ?_;· simp;conv=>whnf)
 refine sOm ?_;refine zaj hw rfl (zw ?_)
 (refine cL ?_;refine dL (Paths.zlc w) ?_)
 by_cases c2:w.zak<w.window
 case neg =>
  refine zai ?_ ?_
  . simpa using c2
  (conv=>whnf);rw [yya hwc c2] at hG;exact yy20
 refine zah ?_ ?_
 . simpa using c2
 (conv=>whnf);by_cases c3:(s.out.length:Int)>=60
 case pos =>
  refine zai ?_ ?_
  . rw [zy3];exact zy12 c3
  (conv=>whnf);rw [yyb c3] at hG;exact yy20
 refine zah ?_ ?_
 . rw [zy3];exact zy20 c3
 conv=>whnf
 repeat refine sG ?_
 refine sOm ?_;refine zaj hm rfl (zw ?_);refine zaj hm rfl (zw ?_);refine zbn (z':=(m.message.data.length:Int)-m.sent) ?_ ?_
 . show W _=_
   rw [zy3];exact zbg zz0 zz0
 (conv=>whnf);refine sD ?_
 (refine zac [] [(1000,1000),(1001,1001),(1002,1002),(1003,1003),(1004,1004),(1005,1005),(1006,1006),(1007,1007),(1008,1008)] [] ?_;(conv=>whnf);refine dG (yjc s a f4) ?_)
 have hWs:W (m.sent+many s m)=m.sent+many s m:=zbg zz0 zz0;by_cases c4:zak s>0
 case pos =>
  refine zai ?_ ?_
  . exact zy12 c4
  (conv=>whnf);refine sR ?_;by_cases c5:W (zak s+many s m)>s.room
  case pos =>
   refine zai ?_ ?_
   . exact zy12 c5
   (conv=>whnf);rw [yyc hke' hm hwc c2 c3 ⟨c4,c5⟩] at hG;exact yy20
  refine zah ?_ ?_
  . exact zy20 c5
  conv=>whnf
  repeat refine sG ?_
  rw [yak hke' hm hwc c2 c3 fun h=>c5 h.2] at hG;exact yy2
 refine zah ?_ ?_
 . exact zy20 c4
 conv=>whnf
 repeat refine sG ?_
 rw [yak hke' hm hwc c2 c3 fun h=>c4 h.1] at hG;exact yy2
end Snd
namespace Snd
open Ser
theorem yjh (s:zab) (a b:List Chunk) (hs:xlu s) (h1p:s.paths.length=2) (hc0:choose s=0) (hb:a.length+b.length<2 ^ 29):zao Tryz.prog 96 [.ptr 1000 0] (lk .free (pH2 s a b)) (zbm (nx s [a,b]).2) (lk .free (pD2 (nx s [a,b]).1.s (xfx (nx s [a,b]).1.out) (xna (nx s [a,b]).1.out))):=by
 obtain ⟨g,hp,hp1,hp2,hmsg⟩:=hs;obtain ⟨⟨f1,f2,f3,f4,f5,f6,f7⟩,g2,g3,g4⟩:=g;obtain ⟨hch,hch2⟩:=zeq hp;have pc:=Paths.zev s.paths zz0;rw [hch,hc0] at pc;have pn:=Sch.zya s.config.turns s.sched s.queue zz0 zz0;obtain ⟨w,hw⟩:∃ w,s.paths[0]?=some w:=⟨_,zy2 zz0⟩
 have hwc:s.paths[choose s]?=some w:=by rw [hc0];exact hw
 generalize hG:nx s [a,b]=G;refine zan mixed Tryz.func96 zz5 [1000,1001,1002,1003,1004,1005,1006,1007,1008,1009] zbk ?_;(conv=>whnf)
 (refine cL ?_;refine dL pc ?_)
 by_cases c1:zdh s<0
 case pos =>
  (refine cL ?_;refine dL pn ?_)
  refine sD ?_;refine zai ?_ ?_
  . exact zy12 c1
  (conv=>whnf);rw [yxz c1] at hG;exact yy8
 obtain ⟨k,hkl,hke⟩:=ymr (t:=s.config.turns) (s:=s.sched) (q:=s.queue) zz92;have hke':zdh s=k:=hke;rw [hke] at pn;obtain ⟨m,hm⟩:∃ m,s.queue[k]?=some m:=⟨_,zy2 hkl⟩
 have hmf:=hmsg m (zy5 hm);obtain ⟨mf,mh,ms,ml,md⟩:=hmf;obtain ⟨n1,n2,n3⟩:=zru (s:=s) (m:=m) hp1 hp2 ms ml md
 (refine cL ?_;refine dL pn ?_)
 refine sD ?_
 try (refine zah ?_ ?_;· simp;conv=>whnf)
 refine sOm ?_;refine zaj hw rfl (zw ?_)
 (refine cL ?_;refine dL (Paths.zlc w) ?_)
 by_cases c2:w.zak<w.window
 case neg =>
  refine zai ?_ ?_
  . simpa using c2
  (conv=>whnf);rw [yya hwc c2] at hG;exact yy8
 refine zah ?_ ?_
 . simpa using c2
 (conv=>whnf);by_cases c3:(s.out.length:Int)>=60
 case pos =>
  refine zai ?_ ?_
  . rw [zy3];exact zy12 c3
  (conv=>whnf);rw [yyb c3] at hG;exact yy8
 refine zah ?_ ?_
 . rw [zy3];exact zy20 c3
 conv=>whnf
 repeat refine sG ?_
 refine sOm ?_;refine zaj hm rfl (zw ?_);refine zaj hm rfl (zw ?_);refine zbn (z':=(m.message.data.length:Int)-m.sent) ?_ ?_
 . show W _=_
   rw [zy3];exact zbg zz0 zz0
 (conv=>whnf);refine sD ?_
 (refine zac [] [(1000,1000),(1001,1001),(1002,1002),(1003,1003),(1004,1004),(1005,1005),(1006,1006),(1007,1007),(1008,1008),(1009,1009)] [] ?_;(conv=>whnf);refine dG (zts s a b f4) ?_)
 have hWs:W (m.sent+many s m)=m.sent+many s m:=zbg zz0 zz0;by_cases c4:zak s>0
 case pos =>
  refine zai ?_ ?_
  . exact zy12 c4
  (conv=>whnf);refine sR ?_;by_cases c5:W (zak s+many s m)>s.room
  case pos =>
   refine zai ?_ ?_
   . exact zy12 c5
   (conv=>whnf);rw [yyc hke' hm hwc c2 c3 ⟨c4,c5⟩] at hG;exact yy8
  refine zah ?_ ?_
  . exact zy20 c5
  conv=>whnf
  repeat refine sG ?_
  rw [yak hke' hm hwc c2 c3 fun h=>c5 h.2] at hG;exact yy0
 refine zah ?_ ?_
 . exact zy20 c4
 conv=>whnf
 repeat refine sG ?_
 rw [yak hke' hm hwc c2 c3 fun h=>c4 h.1] at hG;exact yy0
end Snd
namespace Snd
open Ser
theorem yji (s:zab) (a b:List Chunk) (hs:xlu s) (h1p:s.paths.length=2) (hc0:choose s=1) (hb:a.length+b.length<2 ^ 29):zao Tryz.prog 96 [.ptr 1000 0] (lk .free (pH2 s a b)) (zbm (nx s [a,b]).2) (lk .free (pD2 (nx s [a,b]).1.s (xfx (nx s [a,b]).1.out) (xna (nx s [a,b]).1.out))):=by
 obtain ⟨g,hp,hp1,hp2,hmsg⟩:=hs;obtain ⟨⟨f1,f2,f3,f4,f5,f6,f7⟩,g2,g3,g4⟩:=g;obtain ⟨hch,hch2⟩:=zeq hp;have pc:=Paths.zev s.paths zz0;rw [hch,hc0] at pc;have pn:=Sch.zya s.config.turns s.sched s.queue zz0 zz0;obtain ⟨w,hw⟩:∃ w,s.paths[1]?=some w:=⟨_,zy2 zz0⟩
 have hwc:s.paths[choose s]?=some w:=by rw [hc0];exact hw
 generalize hG:nx s [a,b]=G;refine zan mixed Tryz.func96 zz5 [1000,1001,1002,1003,1004,1005,1006,1007,1008,1009] zbk ?_;(conv=>whnf)
 (refine cL ?_;refine dL pc ?_)
 by_cases c1:zdh s<0
 case pos =>
  (refine cL ?_;refine dL pn ?_)
  refine sD ?_;refine zai ?_ ?_
  . exact zy12 c1
  (conv=>whnf);rw [yxz c1] at hG;exact yy8
 obtain ⟨k,hkl,hke⟩:=ymr (t:=s.config.turns) (s:=s.sched) (q:=s.queue) zz92;have hke':zdh s=k:=hke;rw [hke] at pn;obtain ⟨m,hm⟩:∃ m,s.queue[k]?=some m:=⟨_,zy2 hkl⟩
 have hmf:=hmsg m (zy5 hm);obtain ⟨mf,mh,ms,ml,md⟩:=hmf;obtain ⟨n1,n2,n3⟩:=zru (s:=s) (m:=m) hp1 hp2 ms ml md
 (refine cL ?_;refine dL pn ?_)
 refine sD ?_
 try (refine zah ?_ ?_;· simp;conv=>whnf)
 refine sOm ?_;refine zaj hw rfl (zw ?_)
 (refine cL ?_;refine dL (Paths.zlc w) ?_)
 by_cases c2:w.zak<w.window
 case neg =>
  refine zai ?_ ?_
  . simpa using c2
  (conv=>whnf);rw [yya hwc c2] at hG;exact yy8
 refine zah ?_ ?_
 . simpa using c2
 (conv=>whnf);by_cases c3:(s.out.length:Int)>=60
 case pos =>
  refine zai ?_ ?_
  . rw [zy3];exact zy12 c3
  (conv=>whnf);rw [yyb c3] at hG;exact yy8
 refine zah ?_ ?_
 . rw [zy3];exact zy20 c3
 conv=>whnf
 repeat refine sG ?_
 refine sOm ?_;refine zaj hm rfl (zw ?_);refine zaj hm rfl (zw ?_);refine zbn (z':=(m.message.data.length:Int)-m.sent) ?_ ?_
 . show W _=_
   rw [zy3];exact zbg zz0 zz0
 (conv=>whnf);refine sD ?_
 (refine zac [] [(1000,1000),(1001,1001),(1002,1002),(1003,1003),(1004,1004),(1005,1005),(1006,1006),(1007,1007),(1008,1008),(1009,1009)] [] ?_;(conv=>whnf);refine dG (zts s a b f4) ?_)
 have hWs:W (m.sent+many s m)=m.sent+many s m:=zbg zz0 zz0;by_cases c4:zak s>0
 case pos =>
  refine zai ?_ ?_
  . exact zy12 c4
  (conv=>whnf);refine sR ?_;by_cases c5:W (zak s+many s m)>s.room
  case pos =>
   refine zai ?_ ?_
   . exact zy12 c5
   (conv=>whnf);rw [yyc hke' hm hwc c2 c3 ⟨c4,c5⟩] at hG;exact yy8
  refine zah ?_ ?_
  . exact zy20 c5
  conv=>whnf
  repeat refine sG ?_
  rw [yak hke' hm hwc c2 c3 fun h=>c5 h.2] at hG;exact yy1
 refine zah ?_ ?_
 . exact zy20 c4
 conv=>whnf
 repeat refine sG ?_
 rw [yak hke' hm hwc c2 c3 fun h=>c4 h.1] at hG;exact yy1
theorem yto (s:zab) (a b:List Chunk) (hs:xlu s) (h1p:s.paths.length=2) (hb:a.length+b.length<2 ^ 29):zao Tryz.prog 96 [.ptr 1000 0] (lk .free (pH2 s a b)) (zbm (nx s [a,b]).2) (lk .free (pD2 (nx s [a,b]).1.s (xfx (nx s [a,b]).1.out) (xna (nx s [a,b]).1.out))):=by
 have hc01:choose s=0\/choose s=1:=by have:=(zeq hs.some).2;omega
 exact hc01.elim (fun h=>yjh s a b hs h1p h hb) fun h=>yji s a b hs h1p h hb
end Snd
namespace Snd
open Ser
abbrev zkv (l:List zba):zad:=.live (.row 110 3 (l.map zba.row))
abbrev roK (l:List Chunk):zad:=.ro (.row 61 11 (l.map Chunk.row))
def xqi (id:Nat):List Chunk->List Chunk->HV
 | [],_=>.own id
 | _::a,b=>.osl id 11 (a.length+1) b.length
theorem zqa {α:Type} {f:α->List PV} {l a b c:List α} {o n:Nat} {K:List (List PV)->Prop} (h:l=a++b++c) (ho:o=a.length) (hn:n=b.length) (hk:K (b.map f)):zth (l.map f) o n K:=by
 subst h ho hn;refine ⟨_,rfl,by simp,?_⟩
 rwa [<- zy106,<- zy125,zy24,zy118,zy161]
theorem zid {i s o o' n n':Nat} (ho:o=o') (hn:n=n'):HV.osl i s o n=.osl i s o' n':=by rw [ho,hn]
theorem yma {most:Int} {l:List Chunk} (h:l≠[]):∃ k:Nat,zcg most l=k/\1<=k/\k<=l.length:=by
 obtain ⟨r,h1,h2,-⟩:=Pck.xia l most;have h3:=zy30.2 h;have h4:=h2.1;unfold zcg;rw [h1];split
 . exact ⟨1,rfl,by omega,by omega⟩
 . exact ⟨r,rfl,by omega,by omega⟩
theorem zxc (most path:Int) (n:Nat):zgu most path n []=[]:=by cases n<;>simp [zgu]
def Okc (c:Chunk):Prop:=c.zaq.length<2 ^ 38/\c.zbv.length<2 ^ 38
abbrev pE1 (s:zab) (ps:List zba):List (Nat×zad):=(1000,.live (.cells 139 (xaz s (.own 1001) (.own 1002) (.own 1003) (.own 1004) (.own 1005) (.own 1006) (.own 1007))))::yau s 1001 1002 1003 1004 1005 1006 [(1007,.dead),(1008,.dead),(0,zkv ps)]
abbrev pR1 (s:zab) (a:List Chunk) (L:List (Nat×zad)):List (Nat×zad):=(1000,.live (.cells 139 (xaz s (.own 1001) (.own 1002) (.own 1003) (.own 1004) (.own 1005) (.own 1006) (.own 1007))))::yau s 1001 1002 1003 1004 1005 1006 ((1007,.live (.cells 145 [.own 1008]))::(1008,roK a)::L)
abbrev pE2 (s:zab) (ps:List zba):List (Nat×zad):=(1000,.live (.cells 139 (xaz s (.own 1001) (.own 1002) (.own 1003) (.own 1004) (.own 1005) (.own 1006) (.own 1007))))::yau s 1001 1002 1003 1004 1005 1006 [(1007,.dead),(1008,.dead),(1009,.dead),(0,zkv ps)]
abbrev pR2 (s:zab) (a b:List Chunk) (L:List (Nat×zad)):List (Nat×zad):=(1000,.live (.cells 139 (xaz s (.own 1001) (.own 1002) (.own 1003) (.own 1004) (.own 1005) (.own 1006) (.own 1007))))::yau s 1001 1002 1003 1004 1005 1006 ((1007,.live (.cells 145 [.own 1008,.own 1009]))::(1008,roK a)::(1009,roK b)::L)
theorem yeh (s:zab) (a:List Chunk) (hm:inI s.config.packet) (ha:a.length<2 ^ 29) (hka:∀ c∈a,Okc c):zao Tryz.prog 97 [.ptr 1000 0] (lk .free (pH1 s a)) (.own 0) (lk .free (pE1 s (zbw s.config.packet 0 [a]))):=by
 generalize hT:zbw s.config.packet 0 [a]=T;refine zan mixed Tryz.func97 zz5 [1000,1001,1002,1003,1004,1005,1006,1007,1008] zbk ?_;(conv=>whnf);refine ⟨{x:Nat×List zba // x.1<=1/\x.2.length<=x.1*2 ^ 29/\x.2++zbw s.config.packet x.1 ([a].drop x.1)=T},
  fun | ⟨(i,acc),_⟩=>hsP [1000,1001,1002,1003,1004,1005,1006,1007,1008] 57 [(0,.ptr 1000 0),(3,.own 900),(12,.own 1007),(13,i64 1),(14,i64 i)] (pR1 s a [(900,zkv acc)]),fun x=>1-x.1.1,⟨(0,[]),by dsimp only;omega,by simp,hT⟩,?_,?_⟩
 . exact (zdf (pK9 [(900,none)]))
 rintro ⟨⟨i,acc⟩,k1,k3,k2⟩;dsimp only at k1 k2 k3;refine zhm fun Q hQ=>?_
 have hi:i=0\/i=1:=by omega
 rcases hi with rfl | rfl
 case inl =>
  have hdr:zbw s.config.packet 0 ([a].drop 0)=zgu s.config.packet 0 a.length a++zbw s.config.packet (0+1) ([a].drop (0+1)):=rfl;rw [hdr] at k2;(conv=>whnf);refine ⟨0,rfl,by decide,zw ?_⟩;refine ⟨{x:(List Chunk×List Chunk)×Nat×List zba // a=x.1.1++x.1.2/\x.1.2.length<=x.2.1/\x.2.2.length+x.1.2.length<=(0+1)*2 ^ 29/\x.2.2++(zgu s.config.packet 0 x.2.1 x.1.2++zbw s.config.packet (0+1) ([a].drop (0+1)))=T},
   fun | ⟨((A,B),n,acc),_⟩=>hsP [1000,1001,1002,1003,1004,1005,1006,1007,1008] 57 [(0,.ptr 1000 0),(3,.own 900),(4,i64 0),(5,xqi 1008 A B),(12,.own 1007),(13,i64 1),(14,i64 0)] (pR1 s a [(900,zkv acc)]),fun x=>x.1.1.2.length,⟨(([],a),a.length,acc),rfl,by simp,by dsimp only;omega,k2⟩,?_,?_⟩
  . exact (zdf (pK9 [(900,some 900)]))
  rintro ⟨⟨⟨A,B⟩,n,acc⟩,i1,i2,i4,i3⟩;dsimp only at i1 i2 i3 i4;refine zhm fun Q2 hQ2=>?_
  have hz:a.length=A.length+B.length:=by rw [i1];simp
  have hko:∀ c∈a,Okc c:=hka;by_cases hB:B=[]
  case pos =>
   subst hB;rw [zxc,zy100] at i3;rw [zy16] at hz;cases A with
   | nil =>
    (conv=>whnf);have ha0:a=[]:=zy22 zz95;refine zah ?_ ?_
    . simp [ha0]
    exact yy47
   | cons t A =>
    exact yy47
  case neg =>
  obtain ⟨r,r1,r2,r3⟩:=yma (most:=s.config.packet) hB;have hBl:=zy30.2 hB;obtain ⟨n,rfl⟩:∃ n',n=n'+1:=⟨n-1,by omega⟩
  have hN:zgu s.config.packet 0 (n+1) B=zmd s.config.packet 0 B++zgu s.config.packet 0 n (B.drop r):=by rw [zgu,zy0 hB,r1,zy38]
  have hP:zmd s.config.packet 0 B=if (Pck.zcu (B.take r) s.config.packet).2=0 then [⟨0,false,(Pck.zcu (B.take r) s.config.packet).1⟩] else []:=by rw [zmd,r1,zy38]
  have hsz:Pck.zgw B:=⟨by omega,fun c hc=>hko c zz64⟩
  have hszr:Pck.zgw (B.take r):=hsz.take r;rw [hN,zy24] at i3;cases A with
  | nil =>
   have i1':B=a:=i1.symm;subst i1';(conv=>whnf);refine sT ?_
   repeat refine sG ?_
   (refine cL ?_;refine dL (Pck.znu B s.config.packet hsz hm) ?_)
   refine zaa (c:=(0:Int)<=0/\(0:Int)<=zcg s.config.packet B/\zcg s.config.packet B<=((B.map Chunk.row).length:Int)) ⟨by omega,by omega,by rw [zy3];omega⟩ (zw ?_);refine zep (zw ?_);refine zqa (a:=[]) (b:=B.take r) (c:=B.drop r) zz3 rfl (show (zcg s.config.packet B-0).toNat=_ by rw [r1];simp;omega) ?_;(conv=>whnf);refine ⟨_,Pck.zgp (B.take r) s.config.packet hszr,rfl,zw ?_⟩;refine sD ?_;by_cases ho:(Pck.zcu (B.take r) s.config.packet).2=0
   case pos =>
    rw [zy1 ho] at hP;refine zai ?_ ?_
    . simpa using ho
    (conv=>whnf);refine zaa (c:=((acc.map zba.row).length+1)*40<=140737488355328) zz15 (zw ?_)
    repeat refine sG ?_
    refine zaa (c:=(0:Int)<=zcg s.config.packet B/\zcg s.config.packet B<=((B.map Chunk.row).length:Int)/\((B.map Chunk.row).length:Int)<=((B.map Chunk.row).length:Int)) ⟨by omega,by rw [zy3];omega,by omega⟩ (zw ?_);obtain ⟨x,B1,hx⟩:∃ x B1,B.take r=x::B1:=by
     exact yy15
    have hxl:B1.length+1=r:=by have:=congrArg List.length hx;simp at this;omega
    refine hQ2 _ _ (zw ?_);exact ⟨⟨((x::B1,B.drop r),n,acc++[⟨0,false,(Pck.zcu (B.take r) s.config.packet).1⟩]),by rw [<- hx,zy28],by simp;omega,by simp;omega,by rw [<- i3,hP];simp⟩,(zbx (pK9 [(900,some 51)]) zz7),by simp;omega⟩
   case neg =>
    rw [zy0 ho] at hP;refine zah ?_ ?_
    . simpa using ho
    conv=>whnf
    repeat refine sG ?_
    refine zaa (c:=(0:Int)<=zcg s.config.packet B/\zcg s.config.packet B<=((B.map Chunk.row).length:Int)/\((B.map Chunk.row).length:Int)<=((B.map Chunk.row).length:Int)) ⟨by omega,by rw [zy3];omega,by omega⟩ (zw ?_);obtain ⟨x,B1,hx⟩:∃ x B1,B.take r=x::B1:=by
     exact yy15
    have hxl:B1.length+1=r:=by have:=congrArg List.length hx;simp at this;omega
    refine hQ2 _ _ (zw ?_);exact ⟨⟨((x::B1,B.drop r),n,acc),by rw [<- hx,zy28],by simp;omega,by simp;omega,by rw [<- i3,hP];simp⟩,(zbx (pK9 [(900,some 900)]) zz7),by simp;omega⟩
  | cons t A =>
   have hal:(A.length:Int)+1=((t::A).length:Nat):=by simp
   (conv=>whnf);refine sT ?_
   repeat refine sG ?_
   refine zbo (zw ?_);refine zqa (a:=t::A) (b:=B) (c:=[]) zz77 rfl rfl ?_;(conv=>whnf);refine ⟨_,Pck.znu B s.config.packet hsz hm,rfl,zw ?_⟩
   repeat refine sG ?_
   refine zaa (c:=(0:Int)<=zcg s.config.packet B/\((A.length+1:Nat):Int)+zcg s.config.packet B<=((a.map Chunk.row).length:Int)) ⟨by omega,by rw [zy3,hz,zy8];omega⟩ (zw ?_);refine zep (zw ?_);refine zqa (a:=t::A) (b:=B.take r) (c:=B.drop r) zz77 rfl (show (zcg s.config.packet B).toNat=_ by rw [r1];simp;omega) ?_;(conv=>whnf);refine ⟨_,Pck.zgp (B.take r) s.config.packet hszr,rfl,zw ?_⟩;refine sD ?_;by_cases ho:(Pck.zcu (B.take r) s.config.packet).2=0
   case pos =>
    rw [zy1 ho] at hP;refine zai ?_ ?_
    . simpa using ho
    (conv=>whnf);refine zaa (c:=((acc.map zba.row).length+1)*40<=140737488355328) zz15 (zw ?_)
    repeat refine sG ?_
    refine zaa (c:=(0:Int)<=zcg s.config.packet B/\zcg s.config.packet B<=(B.length:Int)/\((A.length+1:Nat):Int)+(B.length:Int)<=((a.map Chunk.row).length:Int)) ⟨by omega,by omega,by rw [zy3,hz,zy8];omega⟩ (zw ?_);refine hQ2 _ _ (zw ?_);exact ⟨⟨((t::(A++B.take r),B.drop r),n,acc++[⟨0,false,(Pck.zcu (B.take r) s.config.packet).1⟩]),by rw [i1];simp,by simp;omega,by simp;omega,by rw [<- i3,hP];simp⟩,(zbx (pK9 [(900,some 51)]) zz6),by simp;omega⟩
   case neg =>
    rw [zy0 ho] at hP;refine zah ?_ ?_
    . simpa using ho
    conv=>whnf
    repeat refine sG ?_
    refine zaa (c:=(0:Int)<=zcg s.config.packet B/\zcg s.config.packet B<=(B.length:Int)/\((A.length+1:Nat):Int)+(B.length:Int)<=((a.map Chunk.row).length:Int)) ⟨by omega,by omega,by rw [zy3,hz,zy8];omega⟩ (zw ?_);refine hQ2 _ _ (zw ?_);exact ⟨⟨((t::(A++B.take r),B.drop r),n,acc),by rw [i1];simp,by simp;omega,by simp;omega,by rw [<- i3,hP];simp⟩,(zbx (pK9 [(900,some 900)]) zz6),by simp;omega⟩
 case inr =>
  have k2:acc=T:=by rw [<- k2];simp [zbw]
  subst k2;(conv=>whnf);refine hQ _ _ ?_;conv=>whnf
  (exact zcc (pK9 [(0,some 900)]))
theorem yei (s:zab) (a b:List Chunk) (hm:inI s.config.packet) (ha:a.length<2 ^ 29) (hb:b.length<2 ^ 29) (hka:∀ c∈a,Okc c) (hkb:∀ c∈b,Okc c):zao Tryz.prog 97 [.ptr 1000 0] (lk .free (pH2 s a b)) (.own 0) (lk .free (pE2 s (zbw s.config.packet 0 [a,b]))):=by
 generalize hT:zbw s.config.packet 0 [a,b]=T;refine zan mixed Tryz.func97 zz5 [1000,1001,1002,1003,1004,1005,1006,1007,1008,1009] zbk ?_;(conv=>whnf);refine ⟨{x:Nat×List zba // x.1<=2/\x.2.length<=x.1*2 ^ 29/\x.2++zbw s.config.packet x.1 ([a,b].drop x.1)=T},
  fun | ⟨(i,acc),_⟩=>hsP [1000,1001,1002,1003,1004,1005,1006,1007,1008,1009] 57 [(0,.ptr 1000 0),(3,.own 900),(12,.own 1007),(13,i64 2),(14,i64 i)] (pR2 s a b [(900,zkv acc)]),fun x=>2-x.1.1,⟨(0,[]),by dsimp only;omega,by simp,hT⟩,?_,?_⟩
 . exact (zdf (zig [(900,none)]))
 rintro ⟨⟨i,acc⟩,k1,k3,k2⟩;dsimp only at k1 k2 k3;refine zhm fun Q hQ=>?_
 have hi:i=0\/i=1\/i=2:=by omega
 rcases hi with rfl | rfl | rfl
 case inl =>
  have hdr:zbw s.config.packet 0 ([a,b].drop 0)=zgu s.config.packet 0 a.length a++zbw s.config.packet (0+1) ([a,b].drop (0+1)):=rfl;rw [hdr] at k2;(conv=>whnf);refine ⟨0,rfl,by decide,zw ?_⟩;refine ⟨{x:(List Chunk×List Chunk)×Nat×List zba // a=x.1.1++x.1.2/\x.1.2.length<=x.2.1/\x.2.2.length+x.1.2.length<=(0+1)*2 ^ 29/\x.2.2++(zgu s.config.packet 0 x.2.1 x.1.2++zbw s.config.packet (0+1) ([a,b].drop (0+1)))=T},
   fun | ⟨((A,B),n,acc),_⟩=>hsP [1000,1001,1002,1003,1004,1005,1006,1007,1008,1009] 57 [(0,.ptr 1000 0),(3,.own 900),(4,i64 0),(5,xqi 1008 A B),(12,.own 1007),(13,i64 2),(14,i64 0)] (pR2 s a b [(900,zkv acc)]),fun x=>x.1.1.2.length,⟨(([],a),a.length,acc),rfl,by simp,by dsimp only;omega,k2⟩,?_,?_⟩
  . exact (zdf (zig [(900,some 900)]))
  rintro ⟨⟨⟨A,B⟩,n,acc⟩,i1,i2,i4,i3⟩;dsimp only at i1 i2 i3 i4;refine zhm fun Q2 hQ2=>?_
  have hz:a.length=A.length+B.length:=by rw [i1];simp
  have hko:∀ c∈a,Okc c:=hka;by_cases hB:B=[]
  case pos =>
   subst hB;rw [zxc,zy100] at i3;rw [zy16] at hz;cases A with
   | nil =>
    (conv=>whnf);have ha0:a=[]:=zy22 zz95;refine zah ?_ ?_
    . simp [ha0]
    exact yy48
   | cons t A =>
    exact yy48
  case neg =>
  obtain ⟨r,r1,r2,r3⟩:=yma (most:=s.config.packet) hB;have hBl:=zy30.2 hB;obtain ⟨n,rfl⟩:∃ n',n=n'+1:=⟨n-1,by omega⟩
  have hN:zgu s.config.packet 0 (n+1) B=zmd s.config.packet 0 B++zgu s.config.packet 0 n (B.drop r):=by rw [zgu,zy0 hB,r1,zy38]
  have hP:zmd s.config.packet 0 B=if (Pck.zcu (B.take r) s.config.packet).2=0 then [⟨0,false,(Pck.zcu (B.take r) s.config.packet).1⟩] else []:=by rw [zmd,r1,zy38]
  have hsz:Pck.zgw B:=⟨by omega,fun c hc=>hko c zz64⟩
  have hszr:Pck.zgw (B.take r):=hsz.take r;rw [hN,zy24] at i3;cases A with
  | nil =>
   have i1':B=a:=i1.symm;subst i1';(conv=>whnf);refine sT ?_
   repeat refine sG ?_
   (refine cL ?_;refine dL (Pck.znu B s.config.packet hsz hm) ?_)
   refine zaa (c:=(0:Int)<=0/\(0:Int)<=zcg s.config.packet B/\zcg s.config.packet B<=((B.map Chunk.row).length:Int)) ⟨by omega,by omega,by rw [zy3];omega⟩ (zw ?_);refine zep (zw ?_);refine zqa (a:=[]) (b:=B.take r) (c:=B.drop r) zz3 rfl (show (zcg s.config.packet B-0).toNat=_ by rw [r1];simp;omega) ?_;(conv=>whnf);refine ⟨_,Pck.zgp (B.take r) s.config.packet hszr,rfl,zw ?_⟩;refine sD ?_;by_cases ho:(Pck.zcu (B.take r) s.config.packet).2=0
   case pos =>
    rw [zy1 ho] at hP;refine zai ?_ ?_
    . simpa using ho
    (conv=>whnf);refine zaa (c:=((acc.map zba.row).length+1)*40<=140737488355328) zz15 (zw ?_)
    repeat refine sG ?_
    refine zaa (c:=(0:Int)<=zcg s.config.packet B/\zcg s.config.packet B<=((B.map Chunk.row).length:Int)/\((B.map Chunk.row).length:Int)<=((B.map Chunk.row).length:Int)) ⟨by omega,by rw [zy3];omega,by omega⟩ (zw ?_);obtain ⟨x,B1,hx⟩:∃ x B1,B.take r=x::B1:=by
     exact yy15
    have hxl:B1.length+1=r:=by have:=congrArg List.length hx;simp at this;omega
    refine hQ2 _ _ (zw ?_);exact ⟨⟨((x::B1,B.drop r),n,acc++[⟨0,false,(Pck.zcu (B.take r) s.config.packet).1⟩]),by rw [<- hx,zy28],by simp;omega,by simp;omega,by rw [<- i3,hP];simp⟩,(zbx (zig [(900,some 51)]) zz7),by simp;omega⟩
   case neg =>
    exact yy12
  | cons t A =>
   have hal:(A.length:Int)+1=((t::A).length:Nat):=by simp
   (conv=>whnf);refine sT ?_
   repeat refine sG ?_
   refine zbo (zw ?_);refine zqa (a:=t::A) (b:=B) (c:=[]) zz77 rfl rfl ?_;(conv=>whnf);refine ⟨_,Pck.znu B s.config.packet hsz hm,rfl,zw ?_⟩
   repeat refine sG ?_
   refine zaa (c:=(0:Int)<=zcg s.config.packet B/\((A.length+1:Nat):Int)+zcg s.config.packet B<=((a.map Chunk.row).length:Int)) ⟨by omega,by rw [zy3,hz,zy8];omega⟩ (zw ?_);refine zep (zw ?_);refine zqa (a:=t::A) (b:=B.take r) (c:=B.drop r) zz77 rfl (show (zcg s.config.packet B).toNat=_ by rw [r1];simp;omega) ?_;(conv=>whnf);refine ⟨_,Pck.zgp (B.take r) s.config.packet hszr,rfl,zw ?_⟩;refine sD ?_;by_cases ho:(Pck.zcu (B.take r) s.config.packet).2=0
   case pos =>
    rw [zy1 ho] at hP;refine zai ?_ ?_
    . simpa using ho
    (conv=>whnf);refine zaa (c:=((acc.map zba.row).length+1)*40<=140737488355328) zz15 (zw ?_)
    repeat refine sG ?_
    refine zaa (c:=(0:Int)<=zcg s.config.packet B/\zcg s.config.packet B<=(B.length:Int)/\((A.length+1:Nat):Int)+(B.length:Int)<=((a.map Chunk.row).length:Int)) ⟨by omega,by omega,by rw [zy3,hz,zy8];omega⟩ (zw ?_);refine hQ2 _ _ (zw ?_);exact ⟨⟨((t::(A++B.take r),B.drop r),n,acc++[⟨0,false,(Pck.zcu (B.take r) s.config.packet).1⟩]),by rw [i1];simp,by simp;omega,by simp;omega,by rw [<- i3,hP];simp⟩,(zbx (zig [(900,some 51)]) zz6),by simp;omega⟩
   case neg =>
    rw [zy0 ho] at hP;refine zah ?_ ?_
    . simpa using ho
    conv=>whnf
    repeat refine sG ?_
    refine zaa (c:=(0:Int)<=zcg s.config.packet B/\zcg s.config.packet B<=(B.length:Int)/\((A.length+1:Nat):Int)+(B.length:Int)<=((a.map Chunk.row).length:Int)) ⟨by omega,by omega,by rw [zy3,hz,zy8];omega⟩ (zw ?_);exact yy65
 case inr.inl =>
  have hdr:zbw s.config.packet 1 ([a,b].drop 1)=zgu s.config.packet 1 b.length b++zbw s.config.packet (1+1) ([a,b].drop (1+1)):=rfl;rw [hdr] at k2;(conv=>whnf);refine ⟨1,rfl,by decide,zw ?_⟩;refine ⟨{x:(List Chunk×List Chunk)×Nat×List zba // b=x.1.1++x.1.2/\x.1.2.length<=x.2.1/\x.2.2.length+x.1.2.length<=(1+1)*2 ^ 29/\x.2.2++(zgu s.config.packet 1 x.2.1 x.1.2++zbw s.config.packet (1+1) ([a,b].drop (1+1)))=T},
   fun | ⟨((A,B),n,acc),_⟩=>hsP [1000,1001,1002,1003,1004,1005,1006,1007,1008,1009] 57 [(0,.ptr 1000 0),(3,.own 900),(4,i64 1),(5,xqi 1009 A B),(12,.own 1007),(13,i64 2),(14,i64 1)] (pR2 s a b [(900,zkv acc)]),fun x=>x.1.1.2.length,⟨(([],b),b.length,acc),rfl,by simp,by dsimp only;omega,k2⟩,?_,?_⟩
  . exact (zdf (zig [(900,some 900)]))
  rintro ⟨⟨⟨A,B⟩,n,acc⟩,i1,i2,i4,i3⟩;dsimp only at i1 i2 i3 i4;refine zhm fun Q2 hQ2=>?_
  have hz:b.length=A.length+B.length:=by rw [i1];simp
  have hko:∀ c∈b,Okc c:=hkb;by_cases hB:B=[]
  case pos =>
   subst hB;rw [zxc,zy100] at i3;rw [zy16] at hz;cases A with
   | nil =>
    (conv=>whnf);have ha0:b=[]:=zy22 zz95;refine zah ?_ ?_
    . simp [ha0]
    exact yy49
   | cons t A =>
    exact yy49
  case neg =>
  obtain ⟨r,r1,r2,r3⟩:=yma (most:=s.config.packet) hB;have hBl:=zy30.2 hB;obtain ⟨n,rfl⟩:∃ n',n=n'+1:=⟨n-1,by omega⟩
  have hN:zgu s.config.packet 1 (n+1) B=zmd s.config.packet 1 B++zgu s.config.packet 1 n (B.drop r):=by rw [zgu,zy0 hB,r1,zy38]
  have hP:zmd s.config.packet 1 B=if (Pck.zcu (B.take r) s.config.packet).2=0 then [⟨1,false,(Pck.zcu (B.take r) s.config.packet).1⟩] else []:=by rw [zmd,r1,zy38]
  have hsz:Pck.zgw B:=⟨by omega,fun c hc=>hko c zz64⟩
  have hszr:Pck.zgw (B.take r):=hsz.take r;rw [hN,zy24] at i3;cases A with
  | nil =>
   have i1':B=b:=i1.symm;subst i1';(conv=>whnf);refine sT ?_
   repeat refine sG ?_
   (refine cL ?_;refine dL (Pck.znu B s.config.packet hsz hm) ?_)
   refine zaa (c:=(0:Int)<=0/\(0:Int)<=zcg s.config.packet B/\zcg s.config.packet B<=((B.map Chunk.row).length:Int)) ⟨by omega,by omega,by rw [zy3];omega⟩ (zw ?_);refine zep (zw ?_);refine zqa (a:=[]) (b:=B.take r) (c:=B.drop r) zz3 rfl (show (zcg s.config.packet B-0).toNat=_ by rw [r1];simp;omega) ?_;(conv=>whnf);refine ⟨_,Pck.zgp (B.take r) s.config.packet hszr,rfl,zw ?_⟩;refine sD ?_;by_cases ho:(Pck.zcu (B.take r) s.config.packet).2=0
   case pos =>
    rw [zy1 ho] at hP;refine zai ?_ ?_
    . simpa using ho
    (conv=>whnf);refine zaa (c:=((acc.map zba.row).length+1)*40<=140737488355328) zz15 (zw ?_)
    repeat refine sG ?_
    refine zaa (c:=(0:Int)<=zcg s.config.packet B/\zcg s.config.packet B<=((B.map Chunk.row).length:Int)/\((B.map Chunk.row).length:Int)<=((B.map Chunk.row).length:Int)) ⟨by omega,by rw [zy3];omega,by omega⟩ (zw ?_);obtain ⟨x,B1,hx⟩:∃ x B1,B.take r=x::B1:=by
     exact yy15
    have hxl:B1.length+1=r:=by have:=congrArg List.length hx;simp at this;omega
    refine hQ2 _ _ (zw ?_);exact ⟨⟨((x::B1,B.drop r),n,acc++[⟨1,false,(Pck.zcu (B.take r) s.config.packet).1⟩]),by rw [<- hx,zy28],by simp;omega,by simp;omega,by rw [<- i3,hP];simp⟩,(zbx (zig [(900,some 51)]) zz7),by simp;omega⟩
   case neg =>
    exact yy12
  | cons t A =>
   have hal:(A.length:Int)+1=((t::A).length:Nat):=by simp
   (conv=>whnf);refine sT ?_
   repeat refine sG ?_
   refine zbo (zw ?_);refine zqa (a:=t::A) (b:=B) (c:=[]) zz77 rfl rfl ?_;(conv=>whnf);refine ⟨_,Pck.znu B s.config.packet hsz hm,rfl,zw ?_⟩
   repeat refine sG ?_
   refine zaa (c:=(0:Int)<=zcg s.config.packet B/\((A.length+1:Nat):Int)+zcg s.config.packet B<=((b.map Chunk.row).length:Int)) ⟨by omega,by rw [zy3,hz,zy8];omega⟩ (zw ?_);refine zep (zw ?_);refine zqa (a:=t::A) (b:=B.take r) (c:=B.drop r) zz77 rfl (show (zcg s.config.packet B).toNat=_ by rw [r1];simp;omega) ?_;(conv=>whnf);refine ⟨_,Pck.zgp (B.take r) s.config.packet hszr,rfl,zw ?_⟩;refine sD ?_;by_cases ho:(Pck.zcu (B.take r) s.config.packet).2=0
   case pos =>
    rw [zy1 ho] at hP;refine zai ?_ ?_
    . simpa using ho
    (conv=>whnf);refine zaa (c:=((acc.map zba.row).length+1)*40<=140737488355328) zz15 (zw ?_)
    repeat refine sG ?_
    refine zaa (c:=(0:Int)<=zcg s.config.packet B/\zcg s.config.packet B<=(B.length:Int)/\((A.length+1:Nat):Int)+(B.length:Int)<=((b.map Chunk.row).length:Int)) ⟨by omega,by omega,by rw [zy3,hz,zy8];omega⟩ (zw ?_);refine hQ2 _ _ (zw ?_);exact ⟨⟨((t::(A++B.take r),B.drop r),n,acc++[⟨1,false,(Pck.zcu (B.take r) s.config.packet).1⟩]),by rw [i1];simp,by simp;omega,by simp;omega,by rw [<- i3,hP];simp⟩,(zbx (zig [(900,some 51)]) zz6),by simp;omega⟩
   case neg =>
    rw [zy0 ho] at hP;refine zah ?_ ?_
    . simpa using ho
    conv=>whnf
    repeat refine sG ?_
    refine zaa (c:=(0:Int)<=zcg s.config.packet B/\zcg s.config.packet B<=(B.length:Int)/\((A.length+1:Nat):Int)+(B.length:Int)<=((b.map Chunk.row).length:Int)) ⟨by omega,by omega,by rw [zy3,hz,zy8];omega⟩ (zw ?_);exact yy65
 case inr.inr =>
  have k2:acc=T:=by rw [<- k2];simp [zbw]
  subst k2;(conv=>whnf);refine hQ _ _ ?_;conv=>whnf
  (exact zcc (zig [(0,some 900)]))
end Snd
namespace Snd
open Ser
structure PF (j:Nat) (s:zab):Prop where
 g:ymt s
 some:0<s.paths.length
 part:1<=s.config.part
 part2:s.config.part<2 ^ 30
 msg:∀ m∈s.queue,zva s m
 chunk:∀ x∈s.out,Okc x.chunk
 bytes:Sco.total s.out+j*2 ^ 30<2 ^ 38
 few:s.out.length+s.queue.length<2 ^ 27
theorem PF.nfit {j:Nat} {s:zab} (h:PF j s):xlu s:=⟨h.g,h.some,h.part,h.part2,h.msg⟩
theorem zva.same {s t:zab} {m:zae} (h:zva s m) (h1:t.config=s.config) (h2:t.mids.length=s.mids.length) (h3:t.sched.had.length=s.sched.had.length):zva t m:=by
 obtain ⟨⟨a1,a2,a3,a4,a5⟩,b1,b2,b3,b4⟩:=h;have e:zhb t m=zhb s m:=by unfold zhb;rw [h1]
 exact ⟨⟨a1,a2,by rw [h1];exact a3,by rw [h1];exact a4,fun hm=>by rw [e,h2];exact a5 hm⟩,by rw [h3];exact b1,b2,b3,b4⟩
theorem ynq (id:Int):∀ (q:List zae) (s:zab),(∀ x∈s.out,Okc x.chunk)->∀ x∈(q.foldl (zes id) s).out,Okc x.chunk
 | [],s,h,x,hx=>h x hx
 | m::q,s,h,x,hx=>by
  refine ynq id q (zes id s m) (fun y hy=>?_) x hx;unfold zes at hy;split at hy
  . rcases zy10.1 hy with hy | hy
    . exact h y hy
    . rw [zy7] at hy;subst hy;exact ⟨by simp [zhv],by simp [zhv]⟩
  . exact h y hy
theorem ywd {j:Nat} {s:zab} (h:PF j s) {id:Nat} (hid:id<s.fates.length):PF j (zcd s id):=by
 obtain ⟨r,h1,h2,h3⟩:=ziw s id;have hs:=r.sum;refine ⟨yck h.g hid,by rw [r.paths];exact h.some,by rw [r.config];exact h.part,by rw [r.config];exact h.part2,fun m hm=>(h.msg m (h2 m hm)).same r.config (by rw [r.mids]) (by rw [r.had]),fun x hx=>?_,by rw [h1];exact h.bytes,by have:=h.few;omega⟩;have hx':x∈((s.queue.foldl (zes id) {s with fates:=s.fates.set id 3}).out.map (Sco.zhg id)):=hx;obtain ⟨y,hy,rfl⟩:=zy23.1 hx';have:=ynq id s.queue {s with fates:=s.fates.set id 3} h.chunk y hy;have e:(Sco.zhg id y).chunk=y.chunk:=by unfold Sco.zhg;split<;>rfl
 rw [e];exact this
theorem xhs {j:Nat} {s:zab} (h:PF j s) {m:zae} (hm:0<=m.id/\m.id<s.fates.length):PF j (zhw s m):=by
 unfold zhw;split
 . obtain ⟨k,hk⟩:∃ k:Nat,m.id=k:=⟨m.id.toNat,by omega⟩
   rw [hk];exact ywd h zz0
 . exact h
theorem xhw {j:Nat} {s:zab} (h:PF j s) {m:zbr} (hm:0<=m.id/\m.id<s.fates.length):PF j (zgt s m):=by
 unfold zgt;split
 . obtain ⟨k,hk⟩:∃ k:Nat,m.id=k:=⟨m.id.toNat,by omega⟩
   rw [hk];exact ywd h zz0
 . exact h
theorem ynw {j:Nat}:∀ (q:List zae) (s:zab),PF j s->(∀ m∈q,0<=m.id/\m.id<s.fates.length)->PF j (q.foldl zhw s)/\Rest s (q.foldl zhw s)
 | [],s,h,_=>⟨h,Rest.refl s⟩
 | m::q,s,h,hq=>by
  obtain ⟨-,r⟩:=ycb h.g (hq m zz3);obtain ⟨h1,r1⟩:=ynw q (zhw s m) (xhs h (hq m zz3)) fun x hx=>by rw [r.fates];exact hq x zz28
  exact ⟨h1,r.trans r1⟩
theorem ynz {j:Nat}:∀ (q:List zbr) (s:zab),PF j s->(∀ m∈q,0<=m.id/\m.id<s.fates.length)->PF j (q.foldl zgt s)/\Rest s (q.foldl zgt s)
 | [],s,h,_=>⟨h,Rest.refl s⟩
 | m::q,s,h,hq=>by
  obtain ⟨-,r⟩:=ycd h.g (hq m zz3);obtain ⟨h1,r1⟩:=ynz q (zgt s m) (xhw h (hq m zz3)) fun x hx=>by rw [r.fates];exact hq x zz28
  exact ⟨h1,r.trans r1⟩
theorem yvn {j:Nat} {s:zab} (h:PF j s):PF j (expire s)/\Rest s (expire s):=by
 obtain ⟨h1,r1⟩:=ynw s.queue s h h.g.qid;obtain ⟨h2,r2⟩:=ynz (s.queue.foldl zhw s).out _ h1 h1.g.xid;exact ⟨h2,r1.trans r2⟩
theorem zxh:∀ (l:List zbr) (cum:Int) (sk:List zgg),sk.length<=8->(Sco.zdp cum sk l).2.length<=8
 | [],cum,sk,h=>h
 | x::l,cum,sk,h=>by
  simp only [Sco.zdp];split
  . exact h
  split
  . split
    . exact h
    . exact zxh l _ _ zz0
  . exact zxh l _ _ h
theorem xie (s:zab):Okc (zwj s):=⟨by simp [zwj],by have:=zxh s.out s.cum [] zz3;show (Sco.zeg s.out s.cum).2.length<_;unfold Sco.zeg;omega⟩
theorem PF.paths {j:Nat} {s:zab} (h:PF j s) (ps:List Path) (f:Bool) (hp:ps.length=s.paths.length):PF j {s with paths:=ps,forward:=f}:=by
 obtain ⟨⟨⟨f1,f2,f3,f4,f5,f6,f7⟩,g2,g3,g4⟩,a1,a2,a3,a4,a5,a6,a7⟩:=h;exact ⟨⟨⟨f1,f2,f3,by show ps.length<_;omega,f5,f6,f7⟩,g2,g3,g4⟩,by show 0<ps.length;omega,a2,a3,fun m hm=>(a4 m hm).same rfl rfl rfl,a5,a6,a7⟩
theorem xmm {j:Nat} {s:zab} (h:PF j s) {k:Nat} {w:Path}:PF j (yug s k w):=h.paths _ _ zz3
theorem xmk {j:Nat} {s:zab} (h:PF j s) {i c:Nat} {x:zbr} {w:Path} (hx:s.out[i]?=some x):PF j (yfu s i c x w):=by
 obtain ⟨⟨⟨f1,f2,⟨b1,b2⟩,f4,f5,f6,f7⟩,g2,g3,g4⟩,a1,a2,a3,a4,a5,a6,a7⟩:=h;have hi:=(zy11.1 hx).1;have hl:(yfu s i c x w).out.length=s.out.length:=by show (s.out.set i _).length=_;simp
 have hp:(yfu s i c x w).paths.length=s.paths.length:=by show (s.paths.set c _).length=_;simp
 have ht:Sco.total (yfu s i c x w).out=Sco.total s.out:=by
  show Sco.total (s.out.set i (zuj x c))=_;have he:s.out[i]=x:=(zy11.1 hx).2;simp only [Sco.total,zy110];rw [show (zuj x c).chunk.data.length=(s.out.map fun s=>s.chunk.data.length)[i]'(by simpa using hi) by simp [zuj,he],List.set_getElem_self]
 have hmem:∀ y∈(yfu s i c x w).out,∃ z∈s.out,y.id=z.id/\y.chunk=z.chunk:=fun y hy=>by
  rcases zy45 (show y∈s.out.set i (zuj x c) from hy) with hy | hy
  . exact ⟨y,hy,rfl,rfl⟩
  . exact ⟨x,zy5 hx,by rw [hy];rfl,by rw [hy];rfl⟩
 refine ⟨⟨⟨f1,f2,⟨by rw [hl];exact b1,by rw [ht];exact b2⟩,by rw [hp];exact f4,f5,f6,f7⟩,by rw [hl];exact g2,g3,fun y hy=>?_⟩,by rw [hp];exact a1,a2,a3,fun m hm=>(a4 m hm).same rfl rfl rfl,fun y hy=>?_,by rw [ht];exact a6,by rw [hl];exact a7⟩
 . obtain ⟨z,hz,e,-⟩:=hmem y hy;rw [e];exact g4 z hz
 . obtain ⟨z,hz,-,e⟩:=hmem y hy;rw [e];exact a5 z hz
def nxS (s:zab) (k c:Nat) (m:zae) (w:Path):zab:={yfu (s2 s k m) s.out.length c (x0 s m) w with queue:=if ovr s m then s.queue.eraseIdx k else s.queue.set k (m2 s m)}
theorem xjg {j:Nat} {s:zab} (h:PF (j+1) s) {k c:Nat} {m:zae} {w:Path} (hm:s.queue[k]?=some m) (ho:s.out.length<60):PF j (nxS s k c m w):=by
 have hmf:=h.msg m (zy5 hm);obtain ⟨⟨⟨f1,f2,⟨b1,b2⟩,f4,f5,f6,f7⟩,g2,g3,g4⟩,a1,a2,a3,a4,a5,a6,a7⟩:=h;obtain ⟨n1,n2,n3⟩:=zru (s:=s) (m:=m) a2 a3 hmf.sent hmf.left hmf.data;have hk:=(zy11.1 hm).1;have hmid:(zcz s m).length=s.mids.length:=by
  unfold zcz setAt;split
  . split
    . rfl
    . simp
  . rfl
 have hhad:(Sch.had s.sched {m with mid:=zbt s m} (many s m) (ovr s m)).had.length=s.sched.had.length:=by
  unfold Sch.had;dsimp only;split<;>simp
 have hout:(nxS s k c m w).out=(s.out++[x0 s m]).set s.out.length (zuj (x0 s m) c):=rfl;have hout2:(nxS s k c m w).out=s.out++[zuj (x0 s m) c]:=by rw [hout,zy172 _ _ (zy19 _),zy91];rfl
 have hq:∀ y∈(nxS s k c m w).queue,y∈s.queue\/(y=m2 s m/\ovr s m=false):=fun y hy=>by
  have hy:y∈(if ovr s m then s.queue.eraseIdx k else s.queue.set k (m2 s m)):=hy;cases ho:ovr s m with
  | true=>rw [ho,zy1 rfl] at hy;exact .inl (zy65 hy)
  | false =>
   rw [ho,zy0 (by decide)] at hy;rcases zy45 hy with hy | hy
   . exact .inl hy
   . exact .inr ⟨hy,rfl⟩
 have hql:(nxS s k c m w).queue.length<=s.queue.length:=by
  show (if ovr s m then s.queue.eraseIdx k else s.queue.set k (m2 s m)).length<=_;split
  . rw [zy105];split<;>omega
  . simp
 have hp:(nxS s k c m w).paths.length=s.paths.length:=by show (s.paths.set c _).length=_;simp
 have hd:(x0 s m).chunk.data.length<2 ^ 30:=by show ((m.message.data.drop _).take _).length<_;simp;omega
 have htot:Sco.total (nxS s k c m w).out=Sco.total s.out+(x0 s m).chunk.data.length:=by rw [hout2,Sco.zlf];simp [Sco.total,zuj]
 have hlen:(nxS s k c m w).out.length=s.out.length+1:=by rw [hout2];simp
 have hm2:ovr s m=false->zva s (m2 s m):=fun ho=>by
  have:m.sent+many s m≠m.message.data.length:=by
   intro e;have:=xgc s m;rw [ho,zy50] at this;exact this e
  obtain ⟨⟨c1,c2,c3,c4,c5⟩,d1,d2,d3,d4⟩:=hmf;refine ⟨⟨c1,c2,c3,c4,fun hneg=>?_⟩,d1,by show 0<=m.sent+many s m;omega,by show m.sent+many s m<m.message.data.length;omega,d4⟩;have hmn:m.mid<0:=by
   rcases zy140 m.mid 0 with h0 | h0
   . exact h0
   . have:zbt s m=m.mid:=by rw [zbt,zy0 (by omega)]
     have hneg:zbt s m<0:=hneg;omega
  exact c5 hmn
 refine ⟨⟨⟨by omega,by rw [show (nxS s k c m w).sched.had.length=s.sched.had.length from hhad];exact f2,⟨by omega,by omega⟩,by omega,by rw [show (nxS s k c m w).mids.length=s.mids.length from hmid];exact f5,f6,fun y hy=>?_⟩,by omega,fun y hy=>?_,fun y hy=>?_⟩,by omega,a2,a3,fun y hy=>?_,fun y hy=>?_,by omega,by omega⟩
 . rcases hq y hy with hy | ⟨rfl,-⟩
   . exact f7 y hy
   . exact f7 m (zy5 hm)
 . show 0<=y.id/\y.id<s.fates.length
   rcases hq y hy with hy | ⟨rfl,-⟩
   . exact g3 y hy
   . exact g3 m (zy5 hm)
 . show 0<=y.id/\y.id<s.fates.length
   rw [hout2] at hy;rcases zy10.1 hy with hy | hy
   . exact g4 y hy
   . rw [zy7] at hy;subst hy;exact g3 m (zy5 hm)
 . have h0:zva s y:=by
    rcases hq y hy with hy | ⟨rfl,ho⟩
    . exact a4 y hy
    . exact hm2 ho
   exact h0.same rfl hmid hhad
 . rw [hout2] at hy
   rcases zy10.1 hy with hy | hy
   . exact a5 y hy
   . rw [zy7] at hy;subst hy;exact ⟨by simp [zuj,x0],by simp [zuj,x0]⟩
theorem xdg {s:zab} {o:List (List Chunk)} {j:Nat} (h:PF (j+1) s) (hc:choose s<o.length):(nx s o=(⟨s,o⟩,false)/\next ⟨s,o⟩=none)\/∃ (k:Nat) (m:zae) (w:Path) (l:List Chunk),s.queue[k]?=some m/\s.out.length<60/\o[choose s]?=some l /\
 nx s o=(⟨nxS s k (choose s) m w,o.set (choose s) (l++[(x0 s m).chunk])⟩,true)/\next ⟨s,o⟩=some ⟨nxS s k (choose s) m w,o.set (choose s) (l++[(x0 s m).chunk])⟩:=by
 obtain ⟨-,hc2⟩:=zeq h.some;obtain ⟨w,hw⟩:∃ w,s.paths[choose s]?=some w:=⟨_,zy2 hc2⟩
 obtain ⟨l,hl⟩:∃ l,o[choose s]?=some l:=⟨_,zy2 hc⟩
 cases hn:next ⟨s,o⟩ with
 | none=>exact .inl ⟨by rw [nx,hn],rfl⟩
 | some q =>
  right
  have hn':=hn;unfold next at hn';split at hn'
  . cases hn'
  rename_i c0;have c0:=not_or.1 c0;have c1:=not_or.1 c0.2;cases hq:s.queue[(zdh s).toNat]? with
  | none=>simp only [hq] at hn';cases hn'
  | some m =>
   simp only [hq] at hn';split at hn'
   . cases hn'
   . have hn':=Option.some.inj hn'
     rw [zfz rfl hw hl] at hn';refine ⟨(zdh s).toNat,m,w,l,hq,by have h2:=c1.2;dsimp only at h2;omega,hl,?_,?_⟩
     . rw [nx,hn];simp only;rw [<- hn'];rfl
     . rw [<- hn'];rfl
end Snd
namespace Snd
open Ser
structure PO (g:Config) (j n k:Nat) (p:zfs):Prop where
 pf:PF j p.s
 paths:p.s.paths.length=n
 outs:p.out.length=n
 config:p.s.config=g
 most:∀ l∈p.out,l.length<=k/\∀ c∈l,Okc c
theorem PO.mono {g:Config} {j n k k':Nat} {p:zfs} (h:PO g j n k p) (hk:k<=k'):PO g j n k' p:=⟨h.pf,h.paths,h.outs,h.config,fun l hl=>⟨zy113 (h.most l hl).1 hk,(h.most l hl).2⟩⟩
theorem zxj {o:List (List Chunk)} {k c:Nat} {l:List Chunk} {x:Chunk} (h:∀ l∈o,l.length<=k/\∀ c∈l,Okc c) (hl:o[c]?=some l) (hx:Okc x):∀ m∈o.set c (l++[x]),m.length<=k+1/\∀ c∈m,Okc c:=fun m hm=>by
 rcases zy45 hm with hm | rfl
 . obtain ⟨h1,h2⟩:=h m hm;exact ⟨by omega,h2⟩
 . obtain ⟨h1,h2⟩:=h l (zy5 hl)
   refine ⟨by simp;omega,fun c hc=>?_⟩;rcases zy10.1 hc with hc | hc
   . exact h2 c hc
   . rw [zy7] at hc;subst hc;exact hx
theorem yur {g:Config} {j n k c:Nat} {p:zfs} (h:PO g j n k p) (hc:c<n) (i:Nat):PO g j n (k+1) (zct c p i):=by
 obtain ⟨s,o⟩:=p;obtain ⟨w,hw⟩:∃ w,s.paths[c]?=some w:=⟨_,zy2 (by have:=h.paths;dsimp only at this;omega)⟩
 obtain ⟨l,hl⟩:∃ l,o[c]?=some l:=⟨_,zy2 (by have:=h.outs;dsimp only at this;omega)⟩
 cases hx:s.out[i]? with
 | none=>simp only [zct,hx];exact h.mono zz0
 | some x =>
  by_cases d:x.state=3/\w.zak<w.window
  . rw [zpj hx hw hl d]
    exact ⟨xmk h.pf hx,by show (s.paths.set c _).length=_;rw [zy25];exact h.paths,by show (o.set c _).length=_;rw [zy25];exact h.outs,h.config,zxj h.most hl (h.pf.chunk x (zy5 hx))⟩
  . rw [zud hx hw d];exact h.mono zz0
theorem yev {g:Config} {j n c:Nat} (hc:c<n):∀ (L:List Nat) {k:Nat} {p:zfs},PO g j n k p->PO g j n (k+L.length) (L.foldl (zct c) p)
 | [],_,_,h=>h
 | i::L,k,p,h=>(yev hc L (yur h hc i)).mono zz4
theorem ybn {g:Config} {j n k:Nat} {p:zfs} (h:PO g j n k p):PO g j n (k+p.s.out.length) (again p):=by
 obtain ⟨-,hc2⟩:=zeq h.pf.some;have:=yev (show choose p.s<n by rw [<- h.paths];exact hc2) (List.range p.s.out.length) h;rw [List.length_range] at this;exact this
theorem znk {g:Config} {j n k:Nat} {p:zfs} (h:PO g j n k p):PO g j n (k+1) (forward p):=by
 obtain ⟨s,o⟩:=p;obtain ⟨-,hc2⟩:=zeq h.pf.some;dsimp only at hc2;obtain ⟨l,hl⟩:∃ l,o[choose s]?=some l:=⟨_,zy2 (by have:=h.outs;have:=h.paths;dsimp only at *;omega)⟩
 obtain ⟨w,hw⟩:∃ w,s.paths[choose s]?=some w:=⟨_,zy2 hc2⟩
 unfold forward;split
 . exact h.mono zz0
 . simp only [setAt,hl,hw]
   exact ⟨xmm h.pf (k:=choose s) (w:=w),by show (s.paths.set _ _).length=_;rw [zy25];exact h.paths,by show (o.set _ _).length=_;rw [zy25];exact h.outs,h.config,zxj h.most hl (xie s)⟩
theorem zpt {j:Nat} {s:zab} (h:PF j s):PO s.config j s.paths.length 0 ⟨expire s,List.replicate s.paths.length []⟩:=by
 obtain ⟨h1,r⟩:=yvn h;exact ⟨h1,by rw [show (zfs.mk (expire s) _).s=expire s from rfl,r.paths],by simp,r.config,fun l hl=>by rw [zy51 hl];simp⟩
theorem ylr {g:Config} {j n k:Nat} {p:zfs} (h:PO g (j+1) n k p):(nx p.s p.out=(p,false)/\next p=none)\/∃ q,nx p.s p.out=(q,true)/\next p=some q/\p.s.out.length<60/\q.s.out.length=p.s.out.length+1/\PO g j n (k+1) q:=by
 obtain ⟨s,o⟩:=p;obtain ⟨-,hc2⟩:=zeq h.pf.some;have hp:=h.paths;have ho:=h.outs;dsimp only at hp ho hc2;rcases xdg h.pf (show choose s<o.length by omega) with h1 | ⟨i,m,w,l,h1,h2,h3,h4,h5⟩
 . exact .inl h1
 . refine .inr ⟨_,h4,h5,h2,by simp [nxS,yfu,s2],xjg h.pf h1 h2,by show (s.paths.set _ _).length=_;rw [zy25];exact hp,by show (o.set _ _).length=_;rw [zy25];exact ho,h.config,zxj h.most h3 ⟨by simp [x0],by simp [x0]⟩⟩
theorem yah {p:zfs} (h:next p=none) (j:Nat):zga j p=p:=by cases j<;>simp [zga,h]
end Snd
namespace Snd
open Ser
theorem yye {α:Type} {l:List α} (h:l.length=1):∃ a,l=[a]:=by
 match l,h with
 | [a],_=>exact ⟨a,rfl⟩
theorem xap {α:Type} {l:List α} (h:l.length=2):∃ a b,l=[a,b]:=by
 match l,h with
 | [a,b],_=>exact ⟨a,b,rfl⟩
abbrev xrh (t:zab) (a:List Chunk) (L:List (Nat×zad)):List (Nat×zad):=(2,.live (.cells 32 yue))::(16,.live (.cells 139 (xaz t (.own 900) (.own 901) (.own 902) (.own 903) (.own 904) (.own 905) (.own 14))))::yau t 900 901 902 903 904 905 ((14,.live (.cells 145 [.own 906]))::(906,xlq a)::L)
abbrev xri (t:zab) (a b:List Chunk) (L:List (Nat×zad)):List (Nat×zad):=(2,.live (.cells 32 yue))::(16,.live (.cells 139 (xaz t (.own 900) (.own 901) (.own 902) (.own 903) (.own 904) (.own 905) (.own 14))))::yau t 900 901 902 903 904 905 ((14,.live (.cells 145 [.own 906,.own 907]))::(906,xlq a)::(907,xlq b)::L)
theorem zhc {α β:Type} (f:α->β) (A:List α) (p:α) (B:List β):(A++[p]).map f++B=A.map f++f p::B:=by simp
theorem ymj (s:zab) (h:PF 62 s) (hm:inI s.config.packet) (h1p:s.paths.length=1) :
 zao Tryz.prog 39 [s.hv] zaf (.tup [xki (zfc s).1 0 1 2 3 4 5,.own 6]) (lk .free (yau (zfc s).1 0 1 2 3 4 5 [(6,zkv (zfc s).2)])):=by
 have h0:=h.g.fit;have e1:PO s.config 62 1 0 ⟨expire s,[[]]⟩:=by have:=zpt h;rw [h1p] at this;exact this
 have e2:=znk e1;have e3:=ybn e2;have hF:zga 61 (again (forward ⟨expire s,[[]]⟩))=zho s:=by rw [zho,h1p];rfl
 have hfew:=e2.pf.few;rw [show zfc s=(yjw (zho s).s,zbw s.config.packet 0 (zho s).out) from rfl];generalize zho s=F at hF ⊢;dsimp only;refine zan mixed Tryz.func39 zz5 [] (fun _=>.inl rfl) ?_;(conv=>whnf)
 (refine zat [(0,20),(1,21),(2,22),(3,23),(4,24),(5,25)]  ?_;(conv=>whnf);refine dO (zdm s h0) ?_)
 refine zaa ⟨by omega,rfl,by rw [zy3,h1p];decide⟩ (zw ?_);refine ⟨1,by rw [zy3,h1p],by decide,zw ?_⟩;refine sD ?_
 (refine zac [] [(1000,16),(1001,20),(1002,21),(1003,22),(1004,23),(1005,24),(1006,25),(1007,14)] [(0,930),(1,931),(2,932),(3,933),(4,934),(5,935)] ?_;(conv=>whnf);refine dG (yja s h.g) ?_)
 (refine zac [] [(1000,16),(1001,930),(1002,931),(1003,932),(1004,933),(1005,934),(1006,935),(1007,14)] [(0,940)] ?_;(conv=>whnf);refine dG (yee (expire s) zz84 e1.paths) ?_)
 generalize forward ⟨expire s,[[]]⟩=P1 at e2 e3 hF hfew ⊢;obtain ⟨t1,o1⟩:=P1;obtain ⟨a1,rfl⟩:=yye e2.outs
 (refine zac [] [(1000,16),(1001,930),(1002,931),(1003,932),(1004,933),(1005,934),(1006,935),(1007,14),(1008,940)] [(0,950)] ?_;(conv=>whnf);refine dG (yme t1 a1 (by dsimp only at hfew;omega) e2.paths (by have:=(e2.most a1 (by simp)).1;omega)) ?_)
 generalize again ⟨t1,[a1]⟩=P2 at e3 hF ⊢;obtain ⟨t2,o2⟩:=P2;obtain ⟨a2,rfl⟩:=yye e3.outs;dsimp only at hfew;refine ⟨{x:Nat×zab×List Chunk // zga x.1 ⟨x.2.1,[x.2.2]⟩=F/\PO s.config (x.1+1) 1 (2 ^ 27+99-x.1) ⟨x.2.1,[x.2.2]⟩/\61<=x.1+x.2.1.out.length/\x.1<=61},
  fun | ⟨(j,t,a),_⟩=>hs 106 [(2,.ptr 2 0),(3,zhh),(4,.ptr 16 0)] (xrh t a []),fun x=>x.1.1,⟨(61,t2,a2),hF,e3.mono zz60,by dsimp only;omega,by dsimp only;omega⟩,?_,?_⟩
 . exact (zem [(2,some 2),(16,some 16),(14,some 14),(900,some 930),(901,some 931),(902,some 932),(903,some 933),(904,some 934),(905,some 935),(906,some 950)])
 rintro ⟨⟨j,t,a⟩,k1,k2,k3,k4⟩;dsimp only at k1 k2 k3 k4;have km:=k2.most a zz3;(conv=>whnf);have hn:=zsm t a k2.pf.nfit k2.paths zz0;rcases ylr k2 with ⟨n1,n2⟩ | ⟨q,n1,n2,n3,n4,n5⟩
 case inr =>
  obtain ⟨u,o⟩:=q;have n6:=n5.outs;obtain ⟨b,rfl⟩:=yye n6;dsimp only at n1 n3 n4;rw [n1] at hn
  (refine zac [] [(1000,16),(1001,900),(1002,901),(1003,902),(1004,903),(1005,904),(1006,905),(1007,14),(1008,906)] [(0,930),(1,931),(2,932),(3,933),(4,934),(5,935),(6,950)] ?_;(conv=>whnf);refine dG hn ?_)
  obtain ⟨j,rfl⟩:∃ j',j=j'+1:=⟨j-1,by omega⟩
  rw [zga,n2] at k1;exact ⟨⟨(j,u,b),k1,n5.mono zz0,by dsimp only;omega,by dsimp only;omega⟩,(zem [(2,some 2),(16,some 16),(14,some 14),(900,some 930),(901,some 931),(902,some 932),(903,some 933),(904,some 934),(905,some 935),(906,some 950)]),by dsimp only;omega⟩
 case inl =>
  dsimp only at n1;rw [n1] at hn;rw [yah n2] at k1;subst k1
  (refine zac [] [(1000,16),(1001,900),(1002,901),(1003,902),(1004,903),(1005,904),(1006,905),(1007,14),(1008,906)] [(0,930),(1,931),(2,932),(3,933),(4,934),(5,935),(6,950)] ?_;(conv=>whnf);refine dG hn ?_)
  (refine zac [] [(1000,932)] [(0,960)] ?_;(conv=>whnf);refine dG (Sco.zfk t.out t.cum zz85) ?_)
  refine sD ?_;generalize hN:(Sco.zeg t.out t.cum).1=N;have kfew:=k2.pf.few;have kpl:=k2.paths;dsimp only at kfew kpl;refine ⟨{x:List Path×List Path // t.paths=x.1++x.2},fun | ⟨(A,B),_⟩=>hs 106 [(2,.ptr 2 0),(3,zhh),(4,.ptr 16 0),(5,i64 N),(44,i64 t.paths.length),(45,i64 A.length)] (xrh {t with paths:=A.map (zgv t N)++B} a []),fun x=>x.1.2.length,⟨([],t.paths),rfl⟩,?_,?_⟩
  . exact (zem [(2,some 2),(16,some 16),(14,some 14),(900,some 930),(901,some 931),(902,some 932),(903,some 933),(904,some 934),(905,some 935),(906,some 950)])
  rintro ⟨⟨A,B⟩,h⟩;dsimp only at h;(conv=>whnf);cases B with
  | cons p B =>
   have hz:=zch h;refine sT ?_;refine sOm ?_;refine zal (a:=A.map (zgv t N)) (b:=B) (s:=p) rfl zz3 (zw ?_);by_cases d1:p.zak>0
   case pos =>
    rw [show decide (p.zak>0)=true from zy12 d1];refine zai rfl (zw ?_)
    repeat refine sG ?_
    refine zal (a:=A.map (zgv t N)) (b:=B) (s:=p) rfl zz3 (zw ?_);by_cases d2:p.zcm=0
    case pos =>
     rw [show (p.zcm==0)=true from zy44.2 d2];(conv=>whnf);refine zal (a:=A.map (zgv t N)) (b:=B) (s:=p) rfl zz3 (zw ?_);refine sR ?_;refine zal (a:=A.map (zgv t N)) (b:=B) (s:=p) rfl zz3 (zw ?_);refine sD ?_;refine sF ?_;exact ⟨⟨(A++[p],B),zas h⟩,(zcy ((2,some 2)::((16,some 16)::((14,some 14)::(pJ7 [])))) zz16),by simp⟩
    case neg =>
     rw [show (p.zcm==0)=false from zy21.2 d2];(conv=>whnf);refine zal (a:=A.map (zgv t N)) (b:=B) (s:=p) rfl zz3 (zw ?_);by_cases d3:p.zak=0
     case pos =>
      rw [show (p.zak==0)=true from zy44.2 d3];refine zai rfl (zw ?_)
      repeat refine sG ?_
      by_cases d4:N=t.cum
      case pos =>
       rw [show (N==t.cum)=true from zy44.2 d4];(conv=>whnf);have d6:zgv t N p={p with zcm:=0}:=by rw [zgv,zy0 (fun h=>d2 h.2),zy1 ⟨d3,d4⟩]
       exact yy67
      case neg =>
       rw [show (N==t.cum)=false from zy21.2 d4];(conv=>whnf);have d6:zgv t N p=p:=by rw [zgv,zy0 (fun h=>d2 h.2),zy0 (fun h=>d4 h.2)]
       exact yy26
     case neg =>
      rw [show (p.zak==0)=false from zy21.2 d3];(conv=>whnf);have d6:zgv t N p=p:=by rw [zgv,zy0 (fun h=>d2 h.2),zy0 (fun h=>d3 h.1)]
      exact yy26
   case neg =>
    rw [show decide (p.zak>0)=false from zy20 d1];(conv=>whnf);refine zal (a:=A.map (zgv t N)) (b:=B) (s:=p) rfl zz3 (zw ?_);by_cases d3:p.zak=0
    case pos =>
     rw [show (p.zak==0)=true from zy44.2 d3];refine zai rfl (zw ?_)
     repeat refine sG ?_
     by_cases d4:N=t.cum
     case pos =>
      rw [show (N==t.cum)=true from zy44.2 d4];(conv=>whnf);have d6:zgv t N p={p with zcm:=0}:=by rw [zgv,zy0 (fun h=>d1 h.1),zy1 ⟨d3,d4⟩]
      exact yy67
     case neg =>
      rw [show (N==t.cum)=false from zy21.2 d4];(conv=>whnf);have d6:zgv t N p=p:=by rw [zgv,zy0 (fun h=>d1 h.1),zy0 (fun h=>d4 h.2)]
      exact yy26
    case neg =>
     rw [show (p.zak==0)=false from zy21.2 d3];(conv=>whnf);have d6:zgv t N p=p:=by rw [zgv,zy0 (fun h=>d1 h.1),zy0 (fun h=>d3 h.1)]
     exact yy26
  | nil =>
   have hz:=zde h;rw [zy9] at h;refine sN ?_
   (refine zac [] [(1000,16),(1001,900),(1002,901),(1003,902),(1004,903),(1005,904),(1006,905),(1007,14),(1008,906)] [(0,970)] ?_;(conv=>whnf);refine dG (yeh {t with paths:=A.map (zgv t N)++[]} a zz57 zz0 km.2) ?_)
   exact yy13
theorem ymk (s:zab) (h:PF 62 s) (hm:inI s.config.packet) (h1p:s.paths.length=2) :
 zao Tryz.prog 39 [s.hv] zaf (.tup [xki (zfc s).1 0 1 2 3 4 5,.own 6]) (lk .free (yau (zfc s).1 0 1 2 3 4 5 [(6,zkv (zfc s).2)])):=by
 have h0:=h.g.fit;have e1:PO s.config 62 2 0 ⟨expire s,[[],[]]⟩:=by have:=zpt h;rw [h1p] at this;exact this
 have e2:=znk e1;have e3:=ybn e2;have hF:zga 61 (again (forward ⟨expire s,[[],[]]⟩))=zho s:=by rw [zho,h1p];rfl
 have hfew:=e2.pf.few;rw [show zfc s=(yjw (zho s).s,zbw s.config.packet 0 (zho s).out) from rfl];generalize zho s=F at hF ⊢;dsimp only;refine zan mixed Tryz.func39 zz5 [] (fun _=>.inl rfl) ?_;(conv=>whnf)
 (refine zat [(0,20),(1,21),(2,22),(3,23),(4,24),(5,25)]  ?_;(conv=>whnf);refine dO (zdm s h0) ?_)
 refine zaa ⟨by omega,rfl,by rw [zy3,h1p];decide⟩ (zw ?_);refine ⟨2,by rw [zy3,h1p],by decide,zw ?_⟩;refine sD ?_
 (refine zac [] [(1000,16),(1001,20),(1002,21),(1003,22),(1004,23),(1005,24),(1006,25),(1007,14)] [(0,930),(1,931),(2,932),(3,933),(4,934),(5,935)] ?_;(conv=>whnf);refine dG (yjb s h.g) ?_)
 (refine zac [] [(1000,16),(1001,930),(1002,931),(1003,932),(1004,933),(1005,934),(1006,935),(1007,14)] [(0,940),(1,941)] ?_;(conv=>whnf);refine dG (yef (expire s) zz84 e1.paths) ?_)
 generalize forward ⟨expire s,[[],[]]⟩=P1 at e2 e3 hF hfew ⊢;obtain ⟨t1,o1⟩:=P1;obtain ⟨a1,b1,rfl⟩:=xap e2.outs
 (refine zac [] [(1000,16),(1001,930),(1002,931),(1003,932),(1004,933),(1005,934),(1006,935),(1007,14),(1008,940),(1009,941)] [(0,950),(1,951)] ?_;(conv=>whnf);refine dG (ymf t1 a1 b1 (by dsimp only at hfew;omega) e2.paths (by have:=(e2.most a1 (by simp)).1;have:=(e2.most b1 (by simp)).1;omega)) ?_)
 generalize again ⟨t1,[a1,b1]⟩=P2 at e3 hF ⊢;obtain ⟨t2,o2⟩:=P2;obtain ⟨a2,b2,rfl⟩:=xap e3.outs;dsimp only at hfew;refine ⟨{x:Nat×zab×List Chunk×List Chunk // zga x.1 ⟨x.2.1,[x.2.2.1,x.2.2.2]⟩=F/\PO s.config (x.1+1) 2 (2 ^ 27+99-x.1) ⟨x.2.1,[x.2.2.1,x.2.2.2]⟩/\61<=x.1+x.2.1.out.length/\x.1<=61},
  fun | ⟨(j,t,a,b),_⟩=>hs 106 [(2,.ptr 2 0),(3,zhh),(4,.ptr 16 0)] (xri t a b []),fun x=>x.1.1,⟨(61,t2,a2,b2),hF,e3.mono zz60,by dsimp only;omega,by dsimp only;omega⟩,?_,?_⟩
 . exact (zem [(2,some 2),(16,some 16),(14,some 14),(900,some 930),(901,some 931),(902,some 932),(903,some 933),(904,some 934),(905,some 935),(906,some 950),(907,some 951)])
 rintro ⟨⟨j,t,a,b⟩,k1,k2,k3,k4⟩;dsimp only at k1 k2 k3 k4;have km:=k2.most a zz3;have kn:=k2.most b zz3;(conv=>whnf);have hn:=yto t a b k2.pf.nfit k2.paths zz0;rcases ylr k2 with ⟨n1,n2⟩ | ⟨q,n1,n2,n3,n4,n5⟩
 case inr =>
  obtain ⟨u,o⟩:=q;have n6:=n5.outs;obtain ⟨a',b',rfl⟩:=xap n6;dsimp only at n1 n3 n4;rw [n1] at hn
  (refine zac [] [(1000,16),(1001,900),(1002,901),(1003,902),(1004,903),(1005,904),(1006,905),(1007,14),(1008,906),(1009,907)] [(0,930),(1,931),(2,932),(3,933),(4,934),(5,935),(6,950),(7,951)] ?_;(conv=>whnf);refine dG hn ?_)
  obtain ⟨j,rfl⟩:∃ j',j=j'+1:=⟨j-1,by omega⟩
  rw [zga,n2] at k1;exact ⟨⟨(j,u,a',b'),k1,n5.mono zz0,by dsimp only;omega,by dsimp only;omega⟩,(zem [(2,some 2),(16,some 16),(14,some 14),(900,some 930),(901,some 931),(902,some 932),(903,some 933),(904,some 934),(905,some 935),(906,some 950),(907,some 951)]),by dsimp only;omega⟩
 case inl =>
  dsimp only at n1;rw [n1] at hn;rw [yah n2] at k1;subst k1
  (refine zac [] [(1000,16),(1001,900),(1002,901),(1003,902),(1004,903),(1005,904),(1006,905),(1007,14),(1008,906),(1009,907)] [(0,930),(1,931),(2,932),(3,933),(4,934),(5,935),(6,950),(7,951)] ?_;(conv=>whnf);refine dG hn ?_)
  (refine zac [] [(1000,932)] [(0,960)] ?_;(conv=>whnf);refine dG (Sco.zfk t.out t.cum zz85) ?_)
  refine sD ?_;generalize hN:(Sco.zeg t.out t.cum).1=N;have kfew:=k2.pf.few;have kpl:=k2.paths;dsimp only at kfew kpl;refine ⟨{x:List Path×List Path // t.paths=x.1++x.2},fun | ⟨(A,B),_⟩=>hs 106 [(2,.ptr 2 0),(3,zhh),(4,.ptr 16 0),(5,i64 N),(44,i64 t.paths.length),(45,i64 A.length)] (xri {t with paths:=A.map (zgv t N)++B} a b []),fun x=>x.1.2.length,⟨([],t.paths),rfl⟩,?_,?_⟩
  . exact (zem [(2,some 2),(16,some 16),(14,some 14),(900,some 930),(901,some 931),(902,some 932),(903,some 933),(904,some 934),(905,some 935),(906,some 950),(907,some 951)])
  rintro ⟨⟨A,B⟩,h⟩;dsimp only at h;(conv=>whnf);cases B with
  | cons p B =>
   have hz:=zch h;refine sT ?_;refine sOm ?_;refine zal (a:=A.map (zgv t N)) (b:=B) (s:=p) rfl zz3 (zw ?_);by_cases d1:p.zak>0
   case pos =>
    rw [show decide (p.zak>0)=true from zy12 d1];refine zai rfl (zw ?_)
    repeat refine sG ?_
    refine zal (a:=A.map (zgv t N)) (b:=B) (s:=p) rfl zz3 (zw ?_);by_cases d2:p.zcm=0
    case pos =>
     rw [show (p.zcm==0)=true from zy44.2 d2];(conv=>whnf);refine zal (a:=A.map (zgv t N)) (b:=B) (s:=p) rfl zz3 (zw ?_);refine sR ?_;refine zal (a:=A.map (zgv t N)) (b:=B) (s:=p) rfl zz3 (zw ?_);refine sD ?_;refine sF ?_;exact ⟨⟨(A++[p],B),zas h⟩,(zcy ((2,some 2)::((16,some 16)::((14,some 14)::(pJ8 [])))) zz16),by simp⟩
    case neg =>
     rw [show (p.zcm==0)=false from zy21.2 d2];(conv=>whnf);refine zal (a:=A.map (zgv t N)) (b:=B) (s:=p) rfl zz3 (zw ?_);by_cases d3:p.zak=0
     case pos =>
      rw [show (p.zak==0)=true from zy44.2 d3];refine zai rfl (zw ?_)
      repeat refine sG ?_
      by_cases d4:N=t.cum
      case pos =>
       rw [show (N==t.cum)=true from zy44.2 d4];(conv=>whnf);have d6:zgv t N p={p with zcm:=0}:=by rw [zgv,zy0 (fun h=>d2 h.2),zy1 ⟨d3,d4⟩]
       exact yy68
      case neg =>
       rw [show (N==t.cum)=false from zy21.2 d4];(conv=>whnf);have d6:zgv t N p=p:=by rw [zgv,zy0 (fun h=>d2 h.2),zy0 (fun h=>d4 h.2)]
       exact yy27
     case neg =>
      rw [show (p.zak==0)=false from zy21.2 d3];(conv=>whnf);have d6:zgv t N p=p:=by rw [zgv,zy0 (fun h=>d2 h.2),zy0 (fun h=>d3 h.1)]
      exact yy27
   case neg =>
    rw [show decide (p.zak>0)=false from zy20 d1];(conv=>whnf);refine zal (a:=A.map (zgv t N)) (b:=B) (s:=p) rfl zz3 (zw ?_);by_cases d3:p.zak=0
    case pos =>
     rw [show (p.zak==0)=true from zy44.2 d3];refine zai rfl (zw ?_)
     repeat refine sG ?_
     by_cases d4:N=t.cum
     case pos =>
      rw [show (N==t.cum)=true from zy44.2 d4];(conv=>whnf);have d6:zgv t N p={p with zcm:=0}:=by rw [zgv,zy0 (fun h=>d1 h.1),zy1 ⟨d3,d4⟩]
      exact yy68
     case neg =>
      rw [show (N==t.cum)=false from zy21.2 d4];(conv=>whnf);have d6:zgv t N p=p:=by rw [zgv,zy0 (fun h=>d1 h.1),zy0 (fun h=>d4 h.2)]
      exact yy27
    case neg =>
     rw [show (p.zak==0)=false from zy21.2 d3];(conv=>whnf);have d6:zgv t N p=p:=by rw [zgv,zy0 (fun h=>d1 h.1),zy0 (fun h=>d3 h.1)]
     exact yy27
  | nil =>
   have hz:=zde h;rw [zy9] at h;refine sN ?_
   (refine zac [] [(1000,16),(1001,900),(1002,901),(1003,902),(1004,903),(1005,904),(1006,905),(1007,14),(1008,906),(1009,907)] [(0,970)] ?_;(conv=>whnf);refine dG (yei {t with paths:=A.map (zgv t N)++[]} a b zz57 zz0 zz0 km.2 kn.2) ?_)
   exact yy13
end Snd
namespace Snd
open Ser
theorem zmy (s:zab) (h:PF 62 s) (hm:inI s.config.packet) (hp:s.paths.length=1\/s.paths.length=2) :
 zao Tryz.prog 39 [s.hv] zaf (.tup [(zfc s).1.hv,.p (.sl 3 ((zfc s).2.map zba.row))]) zaf:=by
 rcases hp with hp | hp
 . refine zcl Tryz.func39 (ymj s h hm hp) ?_
   generalize zfc s=d;(conv=>whnf)
   rfl
 . refine zcl Tryz.func39 (ymk s h hm hp) ?_
   generalize zfc s=d;(conv=>whnf)
   rfl
theorem zyb (s:zab) (hs:Fit s):zao Tryz.prog 33 [s.hv] zaf s.hv zaf:=by
 refine zcl Tryz.func33 (zdm s hs) ?_;(conv=>whnf)
 rfl
theorem yzr (s:zab):zao Tryz.prog 38 [s.hv] zaf (zbm (calm s)) zaf:=by
 refine zap mixed Tryz.func38 zz5 ?_;(conv=>whnf)
 (repeat' (first | (refine zcx ?_;conv=>whnf) | (refine zaa ?_ ?_;(first | kernel_rfl | decide);conv=>whnf) | (refine zbi ?_ ?_;kernel_rfl;conv=>whnf) | (refine zor.go ?_;conv=>whnf) | (refine zag (fun h=>?_) (fun h=>?_)<;>conv=>whnf)))
 all_goals try simp only [zy61,zy68,zy44,zy21,zy41,zy50,zy3] at *
 . have h':s.queue.length=0:=by omega
   show zbm _=zbm _;refine congrArg zbm ?_;rw [zy152];simp only [calm,h',zy44,zy14,zy41,true_and,decide_true];omega
 . have h':s.queue.length≠0:=by omega
   show zbm _=zbm _;refine congrArg zbm ?_;rw [calm,zy20 h',Bool.false_and]
def zob (c:Config):Int :=
 if c.streams<1\/c.streams>4\/c.paths<1\/c.paths>2\/c.part<1\/c.part>16\/c.packet<40\/c.packet>120\/c.waiting<1\/c.waiting>12\/c.first<0\/c.first>=65536 then 3 else
 if (c).turns<1\/(c).turns>5 then 1 else 0
theorem xaj (c:Config):zao Tryz.prog 29 [c.hv] zaf (i64 (zob c)) zaf:=by
 refine zap mixed Tryz.func29 zz5 ?_;(conv=>whnf)
 (repeat' (first | (refine zcx ?_;conv=>whnf) | (refine zaa ?_ ?_;(first | kernel_rfl | decide);conv=>whnf) | (refine zbi ?_ ?_;kernel_rfl;conv=>whnf) | (refine zor.go ?_;conv=>whnf) | (refine zag (fun h=>?_) (fun h=>?_)<;>conv=>whnf)))
 all_goals try simp only [zy61,zy68,zy44,zy21,zy41,zy50] at *
 all_goals first | (simp only [zob];(repeat' split)<;>first | rfl | omega) | trace_state
end Snd
namespace Snd
open Ser
def zty (s:zab) (m:Message):zab×Int×Int:=if zeu s m=0 then (zgb s m,(s.fates.length:Int),0) else (noS,0,zeu s m)
theorem zuv {s:zab} {m:Message} {e:Int} (h:zeu s m=e) (he:e≠0):zty s m=(noS,0,e):=by rw [zty,h,zy0 he]
theorem yiu {s:zab} {m:Message} (h:zeu s m=0):zty s m=(zgb s m,(s.fates.length:Int),0):=by rw [zty,zy1 h]
theorem ytt (s:zab) (m:Message) (hs:Fit s) (hd:m.data.length<2 ^ 38) :
 zao Tryz.prog 31 [s.hv,m.hv] zaf (.tup [xki (zty s m).1 0 1 2 3 4 5,i64 (zty s m).2.1,i64 (zty s m).2.2]) (lk .free (yau (zty s m).1 0 1 2 3 4 5 [])):=by
 have hs':=hs;obtain ⟨h1,h2,h3,h4,h5,h6,h7⟩:=hs;refine zan mixed Tryz.func31 zz5 [] (fun _=>.inl rfl) ?_;(conv=>whnf)
 (repeat' (first | (refine zcx ?_;conv=>whnf) | (refine zaa ?_ ?_;(first | kernel_rfl | decide);conv=>whnf) | (refine zbi ?_ ?_;kernel_rfl;conv=>whnf) | (refine zor.go ?_;conv=>whnf) | (refine zag (fun h=>?_) (fun h=>?_)<;>conv=>whnf)))
 all_goals try simp only [zy61,zy68,zy44,zy21,zy41,zy50,zy3] at *
 all_goals first
  | (rw [zuv (e:=3) (by simp only [zeu];(repeat' split)<;>first | rfl | omega) (by decide)];exact zam [(0,none),(1,none),(2,none),(3,none),(4,none),(5,none)] rfl rfl trivial rfl rfl ⟨⟨rfl,.inr ⟨rfl,rfl⟩⟩,⟨rfl,.inr ⟨rfl,rfl⟩⟩,⟨rfl,.inr ⟨rfl,rfl⟩⟩,⟨rfl,.inr ⟨rfl,rfl⟩⟩,⟨rfl,.inr ⟨rfl,rfl⟩⟩,⟨rfl,.inr ⟨rfl,rfl⟩⟩,trivial⟩)
  | (rw [zuv (e:=4) (by simp only [zeu];(repeat' split)<;>first | rfl | omega) (by decide)];exact zam [(0,none),(1,none),(2,none),(3,none),(4,none),(5,none)] rfl rfl trivial rfl rfl ⟨⟨rfl,.inr ⟨rfl,rfl⟩⟩,⟨rfl,.inr ⟨rfl,rfl⟩⟩,⟨rfl,.inr ⟨rfl,rfl⟩⟩,⟨rfl,.inr ⟨rfl,rfl⟩⟩,⟨rfl,.inr ⟨rfl,rfl⟩⟩,⟨rfl,.inr ⟨rfl,rfl⟩⟩,trivial⟩)
  | (rw [zuv (e:=7) (by simp only [zeu];(repeat' split)<;>first | rfl | omega) (by decide)];exact zam [(0,none),(1,none),(2,none),(3,none),(4,none),(5,none)] rfl rfl trivial rfl rfl ⟨⟨rfl,.inr ⟨rfl,rfl⟩⟩,⟨rfl,.inr ⟨rfl,rfl⟩⟩,⟨rfl,.inr ⟨rfl,rfl⟩⟩,⟨rfl,.inr ⟨rfl,rfl⟩⟩,⟨rfl,.inr ⟨rfl,rfl⟩⟩,⟨rfl,.inr ⟨rfl,rfl⟩⟩,trivial⟩)
  | rw [yiu (by simp only [zeu];(repeat' split)<;>first | rfl | omega)]
 (refine zat [(0,20),(1,21),(2,22),(3,23),(4,24),(5,25)]  ?_;(conv=>whnf);refine dO (zdm s hs') ?_)
 (refine zat [(0,26)]  ?_;(conv=>whnf);refine dO (Cl.zdb m.data zz0) ?_)
 refine zaa (c:=((s.queue.map zae.row).length+1)*96<=140737488355328) zz4 (zw ?_);refine zaa (c:=((s.fates.map fun n=>[pi n]).length+1)*8<=140737488355328) zz4 (zw ?_);refine zam [(0,some 80),(1,some 21),(2,some 22),(3,some 23),(4,some 24),(5,some 85)] rfl rfl trivial rfl (by rw [show (s.fates.length:Int)=((s.fates.map fun n=>[pi n]).length:Nat) by rw [zy3]];rfl) ⟨⟨rfl,.inl ⟨80,rfl,?_⟩⟩,⟨rfl,.inl ⟨21,rfl,rfl⟩⟩,⟨rfl,.inl ⟨22,rfl,rfl⟩⟩,⟨rfl,.inl ⟨23,rfl,rfl⟩⟩,⟨rfl,.inl ⟨24,rfl,rfl⟩⟩,⟨rfl,.inl ⟨85,rfl,?_⟩⟩,trivial⟩
 . exact zce (f:=zae.row) rfl (by rw [zy3];rfl)
 . exact zce (f:=fun n:Int=>[pi n]) rfl rfl
theorem zmz (s:zab) (m:Message) (hs:Fit s) (hd:m.data.length<2 ^ 38) :
 zao Tryz.prog 31 [s.hv,m.hv] zaf (.tup [(zty s m).1.hv,i64 (zty s m).2.1,i64 (zty s m).2.2]) zaf:=by
 refine zcl Tryz.func31 (ytt s m hs hd) ?_;generalize zty s m=d;(conv=>whnf)
 rfl
end Snd
namespace Snd
open Ser
theorem ysm {l:List zbr} (i:Int) (h:Sco.zgw l):Sco.zgw (l.map (Sco.late i)):=⟨by simpa using h.len,by
 have:Sco.total (l.map (Sco.late i))=Sco.total l:=by
  simp only [Sco.total,zy94];congr 1;apply zy89;intro x _;simp only [Function.comp,Sco.late];split<;>rfl
 rw [this];exact h.bytes⟩
def ylk (part:Int) (s:zab) (i:Nat) (p:Path):zab:={s with out:=s.out.map (Sco.late i),paths:=s.paths.set i (Paths.late p part)}
theorem yaf {part:Int} {s:zab} {i:Nat} {p:Path} (hp:s.paths[i]?=some p) (h:p.zcm=0\/s.clock<p.zcm):zdy part s i=s:=by
 simp only [zdy,hp];rw [zy1 h]
theorem xcw {part:Int} {s:zab} {i:Nat} {p:Path} (hp:s.paths[i]?=some p) (h:¬ (p.zcm=0\/s.clock<p.zcm)):zdy part s i=if (Sco.zeg (ylk part s i p).out s.cum).1>s.cum then {ylk part s i p with forward:=true} else ylk part s i p:=by
 simp only [zdy,hp];rw [zy0 h];rfl
abbrev tkF (s t:zab):List (Nat×zad):=(1,.live (.cells 32 (xgj s (Sch.qs s.queue) (ints s.sched.had) (Sco.ztz s.out) (xpj s.paths) (ints s.mids) (ints s.fates))))::(2,.live (.cells 32 yue))::(3,.live (.cells 32 (xgj t (.own 900) (.own 901) (.own 902) (.own 903) (.own 904) (.own 905))))::yau t 900 901 902 903 904 905 []
theorem ytw (s:zab) (hs:Fit s):zao Tryz.prog 36 [s.hv] zaf (xki (tick s) 0 1 2 3 4 5) (lk .free (yau (tick s) 0 1 2 3 4 5 [])):=by
 have hs':=hs;obtain ⟨h1,h2,h3,h4,h5,h6,h7⟩:=hs;have hT:(List.range s.paths.length).foldl (zdy s.config.part) {s with clock:=W (s.clock+1)}=tick s:=rfl;generalize tick s=T at hT ⊢;refine zan mixed Tryz.func36 zz5 [] (fun _=>.inl rfl) ?_;(conv=>whnf)
 (refine zat [(0,20),(1,21),(2,22),(3,23),(4,24),(5,25)]  ?_;(conv=>whnf);refine dO (zdm s hs') ?_)
 refine sR ?_;refine ⟨{x:Nat×zab // x.1<=s.paths.length/\(List.range x.1).foldl (zdy s.config.part) {s with clock:=W (s.clock+1)}=x.2/\Sco.zgw x.2.out/\x.2.paths.length=s.paths.length},
  fun | ⟨(i,t),_⟩=>hs 61 [(1,.ptr 1 0),(2,.ptr 2 0),(3,.ptr 3 0),(15,.own 903),(16,i64 s.paths.length),(17,i64 i)] (tkF s t),fun x=>s.paths.length-x.1.1,⟨(0,{s with clock:=W (s.clock+1)}),by dsimp only;omega,rfl,h3,rfl⟩,?_,?_⟩
 . exact (zem [(1,some 1),(2,some 2),(3,some 3),(900,some 20),(901,some 21),(902,some 22),(903,some 23),(904,some 24),(905,some 25)])
 rintro ⟨⟨i,t⟩,k1,k2,k3,k4⟩;dsimp only at k1 k2 k3 k4;(conv=>whnf);by_cases hi:i<s.paths.length
 case neg =>
  have hin:i=s.paths.length:=by omega
  subst hin;refine sN ?_;rw [hT] at k2;subst k2;exact zam [(0,some 900),(1,some 901),(2,some 902),(3,some 903),(4,some 904),(5,some 905)] rfl rfl trivial rfl rfl ⟨⟨rfl,.inl ⟨900,rfl,rfl⟩⟩,⟨rfl,.inl ⟨901,rfl,rfl⟩⟩,⟨rfl,.inl ⟨902,rfl,rfl⟩⟩,⟨rfl,.inl ⟨903,rfl,rfl⟩⟩,⟨rfl,.inl ⟨904,rfl,rfl⟩⟩,⟨rfl,.inl ⟨905,rfl,rfl⟩⟩,trivial⟩
 case pos =>
  obtain ⟨p,hp⟩:∃ p,t.paths[i]?=some p:=⟨_,zy2 zz0⟩
  have hst:=znr (zdy s.config.part) {s with clock:=W (s.clock+1)} i;rw [k2] at hst;refine sT ?_;refine sOm ?_;refine zaj hp rfl (zw ?_);by_cases c1:p.zcm=0
  case pos =>
   rw [show (p.zcm==0)=true from zy44.2 c1];(conv=>whnf);refine sF ?_;exact ⟨⟨(i+1,t),by dsimp only;omega,by rw [hst,yaf hp (.inl c1)],k3,k4⟩,(zcy ((1,some 1)::(2,some 2)::(3,some 3)::(pJ6 [])) zz2),by dsimp only;omega⟩
  case neg =>
   rw [show (p.zcm==0)=false from zy21.2 c1];refine zah rfl (zw ?_)
   repeat refine sG ?_
   by_cases c2:t.clock<p.zcm
   case pos =>
    rw [show decide (t.clock<p.zcm)=true from zy12 c2];(conv=>whnf);refine sF ?_;exact ⟨⟨(i+1,t),by dsimp only;omega,by rw [hst,yaf hp (.inr c2)],k3,k4⟩,(zcy ((1,some 1)::(2,some 2)::(3,some 3)::(pJ6 [])) zz2),by dsimp only;omega⟩
   case neg =>
    rw [show decide (t.clock<p.zcm)=false from zy20 c2];(conv=>whnf);have hgo:=xcw (part:=s.config.part) hp (fun h=>h.elim c1 c2)
    (refine zat [(0,35)]  ?_;(conv=>whnf);refine dO (Sco.zxz t.out i k3) ?_)
    (refine cL ?_;refine dL (Paths.zxz p s.config.part) ?_)
    refine zaa ⟨by omega,by rw [zy3];omega⟩ (zw ?_);refine zaj hp rfl (zw ?_);refine sD ?_
    (refine zac [] [(1000,35)] [(0,51)] ?_;(conv=>whnf);refine dG (Sco.zfk (t.out.map (Sco.late i)) t.cum (by rw [zy3];exact k3.len)) ?_)
    have hsz:=ysm i k3;by_cases c3:(Sco.zeg (t.out.map (Sco.late i)) t.cum).1>t.cum
    case pos =>
     rw [zy1 (show (Sco.zeg (ylk s.config.part t i p).out t.cum).1>t.cum from c3)] at hgo;refine zai ?_ ?_
     . simpa using c3
     (conv=>whnf);refine sF ?_;exact ⟨⟨(i+1,{ylk s.config.part t i p with forward:=true}),by dsimp only;omega,by rw [hst,hgo],hsz,by show (t.paths.set i _).length=_;rw [zy25];exact k4⟩,(zcy [(1,some 1),(2,some 2),(3,some 3),(900,some 900),(901,some 901),(902,some 35),(903,some 903),(904,some 904),(905,some 905)] zz33),by dsimp only;omega⟩
    case neg =>
     rw [zy0 (show ¬ (Sco.zeg (ylk s.config.part t i p).out t.cum).1>t.cum from c3)] at hgo;refine zah ?_ ?_
     . simpa using c3
     (conv=>whnf);refine sF ?_;exact ⟨⟨(i+1,ylk s.config.part t i p),by dsimp only;omega,by rw [hst,hgo],hsz,by show (t.paths.set i _).length=_;rw [zy25];exact k4⟩,(zcy [(1,some 1),(2,some 2),(3,some 3),(900,some 900),(901,some 901),(902,some 35),(903,some 903),(904,some 904),(905,some 905)] zz33),by dsimp only;omega⟩
theorem xag (s:zab) (hs:Fit s):zao Tryz.prog 36 [s.hv] zaf (tick s).hv zaf:=by
 refine zcl Tryz.func36 (ytw s hs) ?_;generalize tick s=d;(conv=>whnf)
 rfl
end Snd
namespace Snd
open Ser
def xay (c:Config):zab×Int:=if zob c=0 then (zrx c,0) else (noS,zob c)
theorem yzw (n:Int) (hb:n<2 ^ 40):zao Tryz.prog 66 [i64 n] zaf (.agg [i64 (Sch.new n).last,i64 (Sch.new n).hand,.own 0]) (lk .free [(0,ytc (Sch.new n).had)]):=by
 refine zan mixed Tryz.func66 zz5 [] (fun _=>.inl rfl) ?_;(conv=>whnf);refine zcx (zw ?_);refine zaa (c:=0<=(if 0>n then 0 else n)/\(if 0>n then 0 else n)=(if 0>n then 0 else n)/\(if 0>n then 0 else n)*8<=140737488355328) zz0 ?_;(conv=>whnf);refine zam [(0,some 7)] rfl rfl trivial rfl rfl ⟨⟨rfl,.inl ⟨7,rfl,?_⟩⟩,trivial⟩;have e:(if 0>n then 0 else n)=max n 0:=by omega
 refine zar ?_;rw [show (Sch.new n).had=List.replicate (max n 0).toNat 0 from rfl,zy155,<- e];rfl
theorem yzx (c:Config):zao Tryz.prog 26 [c.hv] zaf (.tup [xki (xay c).1 0 1 2 3 4 5,i64 (xay c).2]) (lk .free (yau (xay c).1 0 1 2 3 4 5 [])):=by
 refine zan mixed Tryz.func26 zz5 [] (fun _=>.inl rfl) ?_;(conv=>whnf)
 (refine cP ?_;refine dL (xaj c) ?_)
 by_cases c0:zob c=0
 case neg =>
  rw [xay,zy0 c0];refine zai ?_ ?_
  . simpa using c0
  (conv=>whnf);refine zam [(0,none),(1,none),(2,none),(3,none),(4,none),(5,none)] rfl rfl trivial rfl rfl ⟨⟨rfl,.inr ⟨rfl,rfl⟩⟩,⟨rfl,.inr ⟨rfl,rfl⟩⟩,⟨rfl,.inr ⟨rfl,rfl⟩⟩,⟨rfl,.inr ⟨rfl,rfl⟩⟩,⟨rfl,.inr ⟨rfl,rfl⟩⟩,⟨rfl,.inr ⟨rfl,rfl⟩⟩,trivial⟩
 case pos =>
  rw [xay,zy1 c0];refine zah ?_ ?_
  . simpa using c0
  conv=>whnf
  repeat refine sG ?_
  have hb:1<=c.streams/\c.streams<=4/\1<=c.paths/\c.paths<=2/\0<=c.first/\c.first<65536:=by
   unfold zob at c0;split at c0
   . cases c0
   . omega
  obtain ⟨b1,b2,b3,b4,b5,b6⟩:=hb
  (refine zat [(0,15)]  ?_;(conv=>whnf);refine dO (yzw c.streams zz0) ?_)
  refine zau (z:=c.first-1) (zbg zz0 zz0) (zw ?_);refine zau (z:=2*c.streams) (zbg zz0 zz0) (zw ?_);refine zaa (c:=0<=2*c.streams/\2*c.streams=2*c.streams/\2*c.streams*(8:Nat)<=140737488355328) ⟨by omega,rfl,by omega⟩ (zw ?_);refine zau (z:=c.first-1) (zbg zz0 zz0) (zw ?_);refine sD ?_;have hnn:(2*c.streams).toNat=(2*c.streams).toNat:=rfl;refine ⟨{i:Nat // (i:Int)<=c.paths},fun | ⟨i,_⟩=>hs 43 [(1,.ptr 1 0),(2,.ptr 2 0),(3,i64 0),(5,.ptr 5 0),(30,i64 c.paths),(31,i64 i)] [(1,.live (.cells 24 [i64 c.streams,i64 c.part,i64 c.packet,i64 c.paths,i64 (c).turns,i64 c.waiting,i64 c.first])),(2,.live (.cells 32 yue)),(5,.live (.cells 32 (xgj (zrx c) zhh (.own 901) zhh (.own 900) (.own 902) zhh))),(900,xrk (List.replicate i (Paths.new c.part))),(901,ytc (Sch.new c.streams).had),(902,ytc (List.replicate (2*c.streams).toNat 0))],fun i=>c.paths.toNat-i.1,⟨0,by omega⟩,?_,?_⟩
  . exact (zcy [(1,some 1),(2,some 2),(5,some 5),(900,none),(901,some 15),(902,some 24)] (by repeat' (first | exact z0 | refine z1 ?_ | refine ⟨?_,?_⟩ | ((exact zar (by rw [zy155];rfl))) | exact z2)))
  rintro ⟨i,k1⟩;(conv=>whnf);by_cases hi:(i:Int)<c.paths
  case pos =>
   refine sT ?_
   (refine cL ?_;refine dL (Paths.zqs c.part) ?_)
   refine zaa (c:=(((List.replicate i (Paths.new c.part)).map Path.row).length+1)*56<=140737488355328) zz4 (zw ?_);refine sD ?_;refine sF ?_;exact ⟨⟨i+1,by omega⟩,(zcy [(1,some 1),(2,some 2),(5,some 5),(900,some 39),(901,some 901),(902,some 902)] (by repeat' (first | exact z0 | refine z1 ?_ | refine ⟨?_,?_⟩ | ((exact zce (f:=Path.row) List.replicate_succ' rfl)) | exact z2))),by dsimp only;omega⟩
  case neg =>
   refine sN ?_;have hin:c.paths.toNat=i:=by omega
   refine zam [(0,none),(1,some 901),(2,none),(3,some 900),(4,some 902),(5,none)] rfl rfl trivial rfl rfl ⟨⟨rfl,.inr ⟨rfl,rfl⟩⟩,⟨rfl,.inl ⟨901,rfl,rfl⟩⟩,⟨rfl,.inr ⟨rfl,rfl⟩⟩,⟨rfl,.inl ⟨900,rfl,?_⟩⟩,⟨rfl,.inl ⟨902,rfl,rfl⟩⟩,⟨rfl,.inr ⟨rfl,rfl⟩⟩,trivial⟩;exact zar (by rw [zrx,hin])
theorem zqs (c:Config):zao Tryz.prog 26 [c.hv] zaf (.tup [(xay c).1.hv,i64 (xay c).2]) zaf:=by
 refine zcl Tryz.func26 (yzx c) ?_;generalize xay c=d;(conv=>whnf)
 rfl
end Snd
namespace Snd
open Ser
theorem zyr {g:FuncId} {c1:List PV} {p:zae->Bool} (hg:∀ m:zae,zao Tryz.prog g [m.hv,.rp c1] zaf (zbm (p m)) zaf) (q:List zae) (hb:q.length<2 ^ 62) :
 zao Tryz.prog 158 [.p (.sl 10 (q.map zae.row)),.clo g [.rp c1]] zaf (i64 (zbs p 0 q)) zaf:=by
 refine zap mixed Tryz.func158 zz5 ?_;(conv=>whnf);refine ⟨{k:Nat // k<=q.length/\zbs p k (q.drop k)=zbs p 0 q},fun | ⟨k,_⟩=>hs 19 [(0,.p (.sl 10 (q.map zae.row))),(1,.clo g [.rp c1]),(7,i64 (q.map zae.row).length),(8,i64 k)] [],fun k=>q.length-k.1,⟨0,by simp⟩,?_,?_⟩
 . exact (zem [])
 . rintro ⟨k,hk,hi⟩
   exact yy5
theorem yrp {g:FuncId} {c1:List PV} {p:zae->Bool} (hg:∀ m:zae,zao Tryz.prog g [m.hv,.rp c1] zaf (zbm (p m)) zaf) (q:List zae) (hb:q.length<2 ^ 62) :
 zao Tryz.prog 124 [.p (.sl 10 (q.map zae.row)),.clo g [.rp c1]] zaf (zbm (q.any p)) zaf:=by
 refine zap mixed Tryz.func124 zz5 ?_;(conv=>whnf)
 (refine cL ?_;refine dL (zyr hg q hb) ?_)
 rw [ycx q 0]
theorem yfe {g:FuncId} {c1:List PV} {p:zbr->Bool} (hg:∀ m:zbr,zao Tryz.prog g [m.hv,.rp c1] zaf (zbm (p m)) zaf) (q:List zbr) (hb:q.length<2 ^ 62) :
 zao Tryz.prog 159 [.p (.sl 20 (q.map zbr.row)),.clo g [.rp c1]] zaf (i64 (zbs p 0 q)) zaf:=by
 refine zap mixed Tryz.func159 zz5 ?_;(conv=>whnf);refine ⟨{k:Nat // k<=q.length/\zbs p k (q.drop k)=zbs p 0 q},fun | ⟨k,_⟩=>hs 19 [(0,.p (.sl 20 (q.map zbr.row))),(1,.clo g [.rp c1]),(7,i64 (q.map zbr.row).length),(8,i64 k)] [],fun k=>q.length-k.1,⟨0,by simp⟩,?_,?_⟩
 . exact (zem [])
 . rintro ⟨k,hk,hi⟩
   exact yy5
theorem xbk {g:FuncId} {c1:List PV} {p:zbr->Bool} (hg:∀ m:zbr,zao Tryz.prog g [m.hv,.rp c1] zaf (zbm (p m)) zaf) (q:List zbr) (hb:q.length<2 ^ 62) :
 zao Tryz.prog 126 [.p (.sl 20 (q.map zbr.row)),.clo g [.rp c1]] zaf (zbm (q.any p)) zaf:=by
 refine zap mixed Tryz.func126 zz5 ?_;(conv=>whnf)
 (refine cL ?_;refine dL (yfe hg q hb) ?_)
 rw [ycx q 0]
theorem xac (id:Int) (m:zae):zao Tryz.prog 125 [m.hv,.rp [pi id]] zaf (zbm (decide (m.id=id))) zaf:=by
 refine zap mixed Tryz.func125 zz5 ?_;(conv=>whnf)
 try rfl
theorem xad (id:Int) (x:zbr):zao Tryz.prog 127 [x.hv,.rp [pi id]] zaf (zbm (decide (x.id=id)&&decide (x.state≠2))) zaf:=by
 refine zap mixed Tryz.func127 zz5 ?_;(conv=>whnf)
 (repeat' (first | (refine zcx ?_;conv=>whnf) | (refine zaa ?_ ?_;(first | kernel_rfl | decide);conv=>whnf) | (refine zbi ?_ ?_;kernel_rfl;conv=>whnf) | (refine zor.go ?_;conv=>whnf) | (refine zag (fun h=>?_) (fun h=>?_)<;>conv=>whnf)))
 all_goals try simp only [zy61,zy68,zy44,zy21,zy41,zy50] at *
 . show zbm _=zbm _
   refine congrArg zbm ?_;rw [zy152];simp [*]
 . show zbm _=zbm _
   refine congrArg zbm ?_;rw [zy152];simp [*]
theorem ycy {α β:Type} (f:Nat->α->β) (A:List α) (p:α) (B:List β):(A++[p]).mapIdx f++B=A.mapIdx f++f A.length p::B:=by
 rw [List.mapIdx_concat];simp
theorem zdz (s:zab)  (hs:Fit s):zao Tryz.prog 82 [.ptr 1000 0] (lk .free (pH0 s )) (.tup []) (lk .free (pD0 (settle s) )):=by
 obtain ⟨h1,h2,h3,h4,h5,h6,h7⟩:=hs;refine zan mixed Tryz.func82 zz5 [1000,1001,1002,1003,1004,1005,1006] zbk ?_;(conv=>whnf);refine ⟨{x:List Int×List Int // s.fates=x.1++x.2},fun | ⟨(A,B),_⟩=>hsP [1000,1001,1002,1003,1004,1005,1006] 41 [(0,.ptr 1000 0),(7,.own 1006),(8,i64 s.fates.length),(9,i64 A.length)] (pH0 {s with fates:=A.mapIdx (settled s)++B} ),fun x=>x.1.2.length,⟨([],s.fates),rfl⟩,?_,?_⟩
 . exact (zbx (pK7 []) zz2)
 rintro ⟨⟨A,B⟩,h⟩;dsimp only at h;(conv=>whnf);cases B with
 | cons f B =>
  have hz:=zch h;refine sT ?_;refine sOm ?_;refine zal (f:=fun n:Int=>[pi n]) (a:=A.mapIdx (settled s)) (b:=B) (s:=f) rfl zz3 (zw ?_);by_cases c1:f=1
  case neg =>
   rw [show (f==1)=false from zy21.2 c1];(conv=>whnf);refine sF ?_;exact ⟨⟨(A++[f],B),zas h⟩,(zbx (pK7 []) (by repeat' (first | exact z0 | refine z1 ?_ | refine ⟨?_,?_⟩ | ((exact zar (by rw [ycy,settled,zy0 (fun h=>c1 h.1)]))) | exact z2))),by simp⟩
  case pos =>
   rw [show (f==1)=true from zy44.2 c1];refine zai rfl (zw ?_)
   (refine cL ?_;refine dL (yrp (fun m=>xac (A.length:Int) m) s.queue zz0) ?_)
   cases c2:(s.queue.any fun m=>decide (m.id=(A.length:Int))) with
   | true =>
    conv=>whnf
    try (refine zah rfl ?_;conv=>whnf)
    (conv=>whnf);refine sF ?_;exact ⟨⟨(A++[f],B),zas h⟩,(zbx (pK7 []) (by repeat' (first | exact z0 | refine z1 ?_ | refine ⟨?_,?_⟩ | ((exact zar (by rw [ycy,settled,zy0 (fun h=>absurd (c2.symm.trans h.2.1) (by decide))]))) | exact z2))),by simp⟩
   | false =>
    conv=>whnf
    try (refine zai rfl ?_;conv=>whnf)
    repeat refine sG ?_
    (refine cL ?_;refine dL (xbk (fun x=>xad (A.length:Int) x) s.out (by have:=h3.len;omega)) ?_)
    cases c3:(s.out.any fun x=>decide (x.id=(A.length:Int))&&decide (x.state≠2)) with
    | true =>
     (conv=>whnf);refine sF ?_;exact ⟨⟨(A++[f],B),zas h⟩,(zbx (pK7 []) (by repeat' (first | exact z0 | refine z1 ?_ | refine ⟨?_,?_⟩ | ((exact zar (by rw [ycy,settled,zy0 (fun h=>absurd (c3.symm.trans h.2.2) (by decide))]))) | exact z2))),by simp⟩
    | false =>
     (conv=>whnf);refine sOm ?_;refine zal (f:=fun n:Int=>[pi n]) (a:=A.mapIdx (settled s)) (b:=B) (s:=f) rfl zz3 (zw ?_);refine sD ?_;refine sF ?_;exact ⟨⟨(A++[f],B),zas h⟩,(zbx (pK7 []) (by repeat' (first | exact z0 | refine z1 ?_ | refine ⟨?_,?_⟩ | ((rw [ycy,settled,zy1 ⟨c1,c2,c3⟩];refine Eq.symm (zfi (f:=fun n:Int=>[pi n]) (a:=A.mapIdx (settled s)) (b:=B) ?_ ?_);all_goals first | rfl | (simp;done))) | exact z2))),by simp⟩
 | nil =>
  have hz:=zde h;rw [zy9] at h;refine sN ?_
  (exact zdn (pK7 [(0,some 1001),(1,some 1002),(2,some 1003),(3,some 1004),(4,some 1005),(5,some 1006)]) (by repeat' (first | exact z0 | refine z1 ?_ | refine ⟨?_,?_⟩ | ((exact zar (by rw [settle,h,zy9]))) | exact z2)))
end Snd
namespace Sco
open Ser
theorem ytr (l:List zbr) (cum:Int) (c:Chunk) (paths:Int) (hl:zgw l) (hr:yri l cum paths) (hsp:c.zaq.length<2 ^ 60) :
 zao Tryz.prog 75 [ztz l,i64 cum,c.hv,i64 paths] zaf (.tup [.own 0,i64 (zex l cum c paths).2.1,.own 1,.own 2]) (lk .free [(0,zkx (zex l cum c paths).1),(1,yui (zex l cum c paths).2.2.1),(2,yui (zex l cum c paths).2.2.2)]):=by
 have hl1:=hl.len;have hp0:=hr.p0;have hp1:=hr.p1;have hc0:=hr.c0;have hc1:=hr.c1;refine zan mixed Tryz.func75 zz5 [] (fun _=>.inl rfl) ?_;have hn:=zms (a:=cum) (t:=c.tag) zz0 zz0;rw [zex];generalize hN:zcw cum c.tag=n at hn ⊢;(conv=>whnf);refine zaa (c:=0<=(if 0>paths then 0 else paths)/\(if 0>paths then 0 else paths)=(if 0>paths then 0 else paths)/\(if 0>paths then 0 else paths)*8<=140737488355328) zz0 ?_;(conv=>whnf)
 (refine cL ?_;refine dLm (zlb _ _) ?_)
 rw [hN];(conv=>whnf);refine zor.meet PUnit (fun _=>hs 165 [(0,ztz l),(1,i64 cum),(6,.ptr 6 0),(8,zhh),(10,.own 900),(11,zhh),(12,i64 n),(13,i64 (cum+l.length))] [(6,.live (.cells 61 c.cells)),(900,yui (List.replicate paths.toNat 0))]) ?_ ?_
 . have e21:zad.live (.row 3 1 (List.replicate (if 0>paths then 0 else paths).toNat [pi 0]))=yui (List.replicate paths.toNat 0):=by
    rw [zy0 (by omega),yui,zy155]
   (conv=>whnf);refine zag (fun c1=>?_) (fun c1=>?_)
   . have c1:0<l.length:=by simpa using c1
     have e1:=hr.zfu (l.length-1) (l[l.length-1]) (zy2 zz0);(conv=>whnf);refine sF ?_;refine zdw (l.length-1) zz4 zz0 ?_;(conv=>whnf);exact ⟨⟨⟩,(zcy [(6,some 6),(900,some 21)] zz44)⟩
   . have c1:l.length=0:=by simpa using c1
     (conv=>whnf);exact ⟨⟨⟩,(zcy [(6,some 6),(900,some 21)] zz44)⟩
 rintro ⟨⟩;(conv=>whnf);by_cases k1:n<cum\/n>cum+l.length
 . rw [zy1 k1]
   by_cases k2:n<cum
   . refine sT ?_
     exact yy44
   . refine sN ?_
     refine sT ?_;exact yy44
 . rw [zy0 k1]
   refine sN ?_;refine sN ?_
   (refine zat [(0,50)]  ?_;(conv=>whnf);refine dO (zdm l hl) ?_)
   refine ⟨{x:List zbr×List zbr×List zbr×List Int×Int // SI l c n paths.toNat cum x},fun | ⟨(a,b,out,zfm,high),_⟩=>hs 165 [(6,.ptr 6 0),(8,.own 901),(10,.own 900),(11,zhh),(12,i64 n),(14,i64 high),(50,.own 902),(51,i64 l.length),(52,i64 a.length)] [(6,.live (.cells 61 c.cells)),(900,yui zfm),(901,zkx out),(902,zkx l)],fun x=>x.1.2.1.length,⟨([],l,[],List.replicate paths.toNat 0,0),rfl,rfl,rfl,rfl,zy80 _,by dsimp only;simp;omega⟩,?_,?_⟩
   . exact (zem [(6,some 6),(900,some 900),(901,none),(902,some 50)])
   rintro ⟨⟨a,b,out,zfm,high⟩,hi⟩;have h:=hi.split;dsimp only at h;cases b with
   | nil =>
    have hz:=zde h;obtain ⟨h1,h2,h3,h4,h5,h6⟩:=hi;dsimp only at h1 h2 h3 h4 h5 h6;rw [zy9] at h1;subst h1;rw [<- h3,<- h4,<- h2];have hlen:out.length<=l.length:=by rw [h2,left,zy3];exact zy72 _ _
    (conv=>whnf);refine sN ?_;refine ⟨{x:List zbr×List zbr // out=x.1++x.2},fun | ⟨(a,b),_⟩=>hs 165 [(8,.own 901),(10,.own 900),(11,.own 903),(12,i64 n),(14,i64 high),(118,i64 out.length),(119,i64 a.length)] [(900,yui zfm),(901,zkx (a.map (age high)++b)),(903,yui (lost high a))],fun x=>x.1.2.length,⟨([],out),rfl⟩,?_,?_⟩
    . exact (zem [(900,some 900),(901,some 901),(903,none)])
    rintro ⟨⟨a,b⟩,h⟩;dsimp only at h;cases b with
    | nil =>
     have hz:=zde h;rw [zy9] at h;subst h;(conv=>whnf);refine sN ?_;exact zam [(0,some 901),(1,some 900),(2,some 903)] rfl rfl trivial rfl rfl ⟨⟨rfl,.inl ⟨901,rfl,by exact zar (by rw [zy9])⟩⟩,⟨rfl,.inl ⟨900,rfl,rfl⟩⟩,⟨rfl,.inl ⟨903,rfl,rfl⟩⟩,trivial⟩
    | cons s b =>
     have hz:=zch h;have ea:(a++[s]).map (age high)++b=a.map (age high)++age high s::b:=by simp
     have el:lost high (a++[s])=lost high a++lost high [s]:=by simp [lost]
     have hln:(lost high a).length<=a.length:=by rw [lost,zy3];exact zy72 _ _
     (conv=>whnf);refine sT ?_
     (try refine sG ?_)
     refine sO ?_;refine zal (a:=a.map (age high)) (b:=b) (s:=s) rfl zz3 (zw ?_);by_cases c1:s.state=1
     . refine sN ?_
       refine zal (a:=a.map (age high)) (b:=b) (s:=s) rfl zz3 (zw ?_);by_cases c2:s.number<high
       . refine sN ?_
         refine zal (a:=a.map (age high)) (b:=b) (s:=s) rfl zz3 (zw ?_);refine sR ?_;refine zal (a:=a.map (age high)) (b:=b) (s:=s) rfl zz3 (zw ?_);refine zbu zz3 zz3 (zw ?_);by_cases c3:W (s.missed+1)>=3
         . have e1:age high s={s with missed:=W (s.missed+1),state:=3}:=by rw [age,zy1 ⟨c1,c2⟩,zy1 c3]
           have e2:lost high [s]=[s.number]:=by simp [lost,c1,c2,c3]
           refine sT ?_;refine zbu zz3 zz3 (zw ?_);refine zbu zz3 zz3 (zw ?_);refine zaa (c:=(((lost high a).map fun n=>[pi n]).length+1)*8<=140737488355328) zz15 (zw ?_);refine sF ?_;exact ⟨⟨(a++[s],b),zas h⟩,(zcy [(900,some 900),(901,some 901),(903,some 159)] (by repeat' (first | exact z0 | refine z1 ?_ | refine ⟨?_,?_⟩ | ((rw [ea];exact (xeg (by simp) (by rw [e1];rfl)).symm)) | ((rw [el,e2];exact (zin (f:=fun n=>[pi n]) rfl).symm)) | exact z2))),by simp⟩
         . have e1:age high s={s with missed:=W (s.missed+1)}:=by rw [age,zy1 ⟨c1,c2⟩,zy0 c3]
           have e2:lost high [s]=[]:=by simp [lost,c1,c2,c3]
           refine sN ?_;refine sF ?_;exact ⟨⟨(a++[s],b),zas h⟩,(zcy [(900,some 900),(901,some 901),(903,some 903)] (by repeat' (first | exact z0 | refine z1 ?_ | refine ⟨?_,?_⟩ | ((rw [ea];exact (zfi (by simp) (by rw [e1];rfl)).symm)) | ((rw [el,e2,zy9];rfl)) | exact z2))),by simp⟩
       . have e1:age high s=s:=by rw [age,zy0 fun h=>c2 h.2]
         have e2:lost high [s]=[]:=by simp [lost,c2]
         exact yy89
     . have e1:age high s=s:=by rw [age,zy0 fun h=>c1 h.1]
       have e2:lost high [s]=[]:=by simp [lost,c1]
       exact yy89
   | cons s b =>
    have hz:=zch h;obtain ⟨hnum,hpa0,hpa1⟩:=hr.at h;have hnx:=hi.next hnum hc0;have hhi:=hi.h1;have hh0:=hi.h0;have hcl:=hi.zfm;have hol:out.length<=a.length:=by have:=hi.out;dsimp only at this;rw [this,left,zy3];exact zy72 _ _
    dsimp only at hhi hh0 hcl;have hcl:zfm.length=paths.toNat:=by rw [hcl,zzi]
    have hby:=hl.bytes;rw [h,zlf,zir] at hby;(conv=>whnf);refine sT ?_;refine sO ?_;refine zal h rfl (zw ?_);by_cases g:s.number>n
    . refine sT ?_
      refine sR ?_
      (refine cL ?_;refine dL (yqu c.zaq _ zz0) ?_)
      by_cases hh:has c.zaq (W (s.number-n))=true
      . have hk:here c n s=true:=by rw [here,hh];simp
        refine sN ?_;have eA:zad.live (.row 3 1 ((zfm.map fun n=>[pi n]).set s.path.toNat [pi (W (zfm[s.path.toNat]'zz0+((s.chunk.data.map zef).length:Int)))]))=yui (ybl zfm s.path s.chunk.data.length):=by
         rw [ybl,yui,zy110,zy2 (by omega),zy145,zy3]
        by_cases q:s.state=1\/s.state=3
        . have hcm:comes c n s=true:=by rw [comes,hk,zy166];rcases q with q | q<;>rw [q]<;>rfl
          rw [zy1 g,zjh,zy1 hcm,zot,zy1 hcm,zbf,zy1 hcm] at hnx;have emx:(if s.number>high then s.number else high)=s.number:=by split<;>omega
          by_cases q1:s.state=1
          . refine sT ?_
            (repeat' (first | refine sT ?_ | refine sN ?_))
            refine sO ?_;refine zdw s.path.toNat zz0 zz0 (zw ?_);refine sR ?_;refine sO ?_;refine zdw s.path.toNat zz0 zz0 (zw ?_);refine sD ?_;exact yy23
          . refine sN ?_
            refine sT ?_
            (repeat' (first | refine sT ?_ | refine sN ?_))
            refine sO ?_;refine zdw s.path.toNat zz0 zz0 (zw ?_);refine sR ?_;refine sO ?_;refine zdw s.path.toNat zz0 zz0 (zw ?_);refine sD ?_;exact yy23
        . have hcm:comes c n s=false:=by
           rw [comes,hk,zy166];simp only [not_or] at q;simp [q.1,q.2]
          rw [zy1 g,zjh,zy0 (by rw [hcm];decide),zot,zy0 zz78,zbf,zy0 zz78] at hnx;have q1:s.state≠1:=fun h=>q (.inl h)
          have q2:s.state≠3:=fun h=>q (.inr h)
          refine sN ?_;refine sN ?_;exact yy23
      . have hk:here c n s=false:=by rw [here];simp [hh];omega
        have hcm:comes c n s=false:=by rw [comes,hk];rfl
        rw [zy1 g,zjh,zy0 (by rw [hcm];decide),zot,zy0 zz78,zbf,zy0 zz78] at hnx;refine zai (by simpa using hh) (zw ?_);refine zaa (c:=((out.map zbr.row).length+1)*200<=140737488355328) om (zw ?_);refine sF ?_;exact ⟨⟨_,hnx⟩,(zcy [(6,some 6),(900,some 900),(901,some 73),(902,some 902)] (by repeat' (first | exact z0 | refine z1 ?_ | refine ⟨?_,?_⟩ | (exact (zin (f:=zbr.row) rfl).symm) | exact z2))),by simp⟩
    . have hk:here c n s=true:=by rw [here];simp;left;omega
      refine sN ?_;have eA:zad.live (.row 3 1 ((zfm.map fun n=>[pi n]).set s.path.toNat [pi (W (zfm[s.path.toNat]'zz0+((s.chunk.data.map zef).length:Int)))]))=yui (ybl zfm s.path s.chunk.data.length):=by
       rw [ybl,yui,zy110,zy2 (by omega),zy145,zy3]
      by_cases q:s.state=1\/s.state=3
      . have hcm:comes c n s=true:=by rw [comes,hk,zy166];rcases q with q | q<;>rw [q]<;>rfl
        rw [zy0 g,zjh,zy1 hcm,zot,zy1 hcm,zy9] at hnx;have emx:(if s.number>high then s.number else high)=s.number:=by split<;>omega
        by_cases q1:s.state=1
        . refine sT ?_
          exact yy38
        . refine sN ?_
          refine sT ?_;exact yy38
      . have hcm:comes c n s=false:=by
         rw [comes,hk,zy166];simp only [not_or] at q;simp [q.1,q.2]
        rw [zy0 g,zjh,zy0 (by rw [hcm];decide),zot,zy0 zz78,zy9] at hnx;have q1:s.state≠1:=fun h=>q (.inl h)
        have q2:s.state≠3:=fun h=>q (.inr h)
        refine sN ?_;refine sN ?_;refine sN ?_;refine sF ?_;exact ⟨⟨_,hnx⟩,(zcy ((6,some 6)::(pJ3 [])) zz29),by simp⟩
end Sco
namespace Snd
open Ser
def zhk (ps:List Path) (part:Int) (moved:Bool) (A:List Int):List Path:=ps.mapIdx fun i p=>if A[i]?.getD 0>0 then Paths.zyq p (A[i]?.getD 0) part moved else p
theorem ybw {ps:List Path} {part:Int} {moved:Bool} {A:List Int}:(zhk ps part moved A)[A.length]?=ps[A.length]?:=by
 rw [zhk,zy47,zy52 (zy19 _)];cases ps[A.length]?<;>simp
theorem zzj {ps:List Path} {part:Int} {moved:Bool} {A:List Int} {n:Int} {p:Path} (hp:ps[A.length]?=some p) :
 zhk ps part moved (A++[n])=(zhk ps part moved A).set A.length (if n>0 then Paths.zyq p n part moved else p):=by
 apply zy75;intro i;rw [zy138,zhk,zhk,zy47,zy47,zy77];have hl:=(zy11.1 hp).1;by_cases hi:A.length=i
 . subst hi
   rw [zy1 rfl,zy1 hl,hp];simp
 . rw [zy0 hi]
   rcases zy71 i A.length with h | h
   . rw [zy26 h]
   . rw [zy52 (l:=A++[n]) (by simp;omega),zy52 (l:=A) h]
theorem yir {l:List zbr} (h:Sco.zgw l) (cum:Int) (c:Chunk) (paths:Int):Sco.zgw (Sco.zex l cum c paths).1:=by
 have hf:∀ (p:zbr->Bool) (l:List zbr),Sco.total (l.filter p)<=Sco.total l:=by
  intro p l
  induction l with
  | nil=>exact zy19 _
  | cons x l ih =>
   rw [zy64,Sco.zir];split
   . rw [Sco.zir];omega
   . omega
 have hm:∀ (f:zbr->zbr) (l:List zbr),(∀ x,(f x).chunk=x.chunk)->Sco.total (l.map f)=Sco.total l:=by
  intro f l hf;simp only [Sco.total,zy94];congr 1;exact zy89 fun s _=>by simp [hf]
 unfold Sco.zex;split
 . exact h
 . refine ⟨?_,?_⟩
   . have:=zy72 (fun s:zbr=>decide (s.number>zcw cum c.tag)) l
     have:=h.len;simp only [Sco.left,zy3];omega
   . dsimp only
     rw [hm _ _ (fun x=>by unfold Sco.age;(repeat' split)<;>rfl),Sco.left,hm _ _ (fun x=>by unfold Sco.zbf;split<;>rfl)];exact zy159 (hf _ _) h.bytes
def zfd (s:zab) (c:Chunk) (k:List zbr×Int×List Int×List Int):zab:=zfa {s with out:=k.1,cum:=k.2.1,room:=c.room,paths:=zhk s.paths s.config.part (decide (k.2.1>s.cum)) k.2.2.1}
def zge (part:Int) (t:zab) (lost:List Int):zab:=match lost.getLast? with
 | none=>t
 | some z=>if z>t.recover then {t with paths:=setAt t.paths (choose t) fun p=>Paths.ygd p part,recover:=W (t.next-1)} else t
def zej (moved:Bool) (u:zab):zab:=if moved=true/\(Sco.zeg u.out u.cum).1>u.cum then {u with forward:=true} else u
theorem zil (s:zab) (c:Chunk):heard s c=settle (zej (decide ((Sco.zex s.out s.cum c s.paths.length).2.1>s.cum)) (zge s.config.part (zfd s c (Sco.zex s.out s.cum c s.paths.length)) (Sco.zex s.out s.cum c s.paths.length).2.2.2)):=rfl
def upS (t:zab) (part:Int) (w:Path):zab:={t with paths:=t.paths.set (choose t) (Paths.ygd w part),recover:=W (t.next-1)}
theorem Fit.fwd {s:zab} (h:Fit s):Fit {s with forward:=true}:=⟨h.queue,h.had,h.out,h.paths,h.mids,h.fates,h.data⟩
theorem Fit.up {s:zab} (h:Fit s) {part:Int} {w:Path}:Fit (upS s part w):=⟨h.queue,h.had,h.out,by show (s.paths.set _ _).length<_;rw [zy25];exact h.paths,h.mids,h.fates,h.data⟩
theorem ytl (s:zab) (c:Chunk) (hs:Fit s) (hr:Sco.yri s.out s.cum s.paths.length) (hsp:c.zaq.length<2 ^ 60) :
 zao Tryz.prog 34 [s.hv,c.hv] zaf (xki (zjo s c) 0 1 2 3 4 5) (lk .free (yau (zjo s c) 0 1 2 3 4 5 [])):=by
 have hs':=hs;obtain ⟨h1,h2,h3,h4,h5,h6,h7⟩:=hs;generalize hT:zjo s c=T;refine zan mixed Tryz.func34 zz5 [] (fun _=>.inl rfl) ?_;(conv=>whnf)
 (refine zat [(0,20),(1,21),(2,22),(3,23),(4,24),(5,25)]  ?_;(conv=>whnf);refine dO (zdm s hs') ?_)
 by_cases c1:c.kind=2
 case neg =>
  rw [zjo,zy1 c1] at hT;subst hT;refine zai ?_ ?_
  . simpa using c1
  exact yy30
 case pos =>
  rw [zjo,zy0 (fun h=>h c1)] at hT;refine zah ?_ ?_
  . simpa using c1
  conv=>whnf
  repeat refine sG ?_
  have hk:=Sco.ytr s.out s.cum c ((s.paths.map Path.row).length:Nat) h3 (by rw [zy3];exact hr) hsp;by_cases k1:zcw s.cum c.tag<s.cum\/zcw s.cum c.tag>s.cum+s.out.length
  case pos =>
   rw [zy1 k1] at hT;subst hT;rw [Sco.zex,zy1 k1] at hk
   (refine zat [(0,31),(1,32),(2,33)]  ?_;(conv=>whnf);refine dO hk ?_)
   (refine cL ?_;refine dL (zlb s.cum c.tag) ?_)
   refine zai ?_ ?_
   . have:zcw s.cum c.tag≠s.cum:=by omega
     simpa using this
   exact yy30
  case neg =>
   rw [zy0 k1,zil] at hT;have hks:=yir h3 s.cum c s.paths.length;have hlo:(Sco.zex s.out s.cum c s.paths.length).2.2.2.length<=s.out.length:=by
    rw [Sco.zex,zy0 k1];dsimp only;rw [Sco.lost,zy3];refine zy113 (zy72 _ _) ?_;rw [Sco.left,zy3];exact zy72 _ _
   have hK:(Sco.zex s.out s.cum c ((s.paths.map Path.row).length:Nat)).2.1=zcw s.cum c.tag:=by rw [Sco.zex,zy0 k1]
   rw [hK] at hk
   (refine zat [(0,31),(1,32),(2,33)]  ?_;(conv=>whnf);refine dO hk ?_)
   (refine cL ?_;refine dL (zlb s.cum c.tag) ?_)
   rw [show (zcw s.cum c.tag != zcw s.cum c.tag)=false from bne_self_eq_false _];(conv=>whnf);refine sD ?_;have hcl:(Sco.zex s.out s.cum c ((s.paths.map Path.row).length:Nat)).2.2.1.length=s.paths.length:=by
    rw [Sco.zex,zy0 k1];simp only [Sco.zzi];rw [zy3];rfl
   have hid:s.paths.mapIdx (fun _ p=>p)=s.paths:=by apply List.ext_getElem<;>simp
   have epl:(s.paths.map Path.row).length=s.paths.length:=zy3 _;rw [<- epl] at hT hks hlo;generalize Sco.zex s.out s.cum c ((s.paths.map Path.row).length:Nat)=K at hcl hK hk hT hks hlo ⊢;rw [hK] at hT;refine ⟨{x:List Int×List Int // K.2.2.1=x.1++x.2},fun | ⟨(A,B),_⟩=>hs 133 [(2,.ptr 2 0),(4,.ptr 4 0),(5,.ptr 5 0),(9,.own 907),(10,zbm (decide (zcw s.cum c.tag>s.cum))),(55,.own 906),(56,i64 s.paths.length),(57,i64 A.length)] ((2,.live (.cells 32 (xgj s (Sch.qs s.queue) (ints s.sched.had) (Sco.ztz s.out) (xpj s.paths) (ints s.mids) (ints s.fates))))::(4,.live (.cells 32 yue))::(5,.live (.cells 32 (xgj {s with cum:=zcw s.cum c.tag,room:=c.room} (.own 900) (.own 901) (.own 902) (.own 903) (.own 904) (.own 905))))::yau {s with out:=K.1,paths:=zhk s.paths s.config.part (decide (zcw s.cum c.tag>s.cum)) A} 900 901 902 903 904 905 [(906,ytc K.2.2.1),(907,ytc K.2.2.2)]),fun x=>x.1.2.length,⟨([],K.2.2.1),rfl⟩,?_,?_⟩
   . exact (zcy [(2,some 2),(4,some 4),(5,some 5),(900,some 20),(901,some 21),(902,some 31),(903,some 23),(904,some 24),(905,some 25),(906,some 32),(907,some 33)] (by repeat' (first | exact z0 | refine z1 ?_ | refine ⟨?_,?_⟩ | ((exact zbl (by rw [zy3];omega))) | ((exact zar (by simp [zhk,hid]))) | exact z2)))
   rintro ⟨⟨A,B⟩,h⟩;dsimp only at h;(conv=>whnf);cases B with
   | cons n B =>
    have hz:=zch h;obtain ⟨p,hp⟩:∃ p,s.paths[A.length]?=some p:=⟨_,zy2 zz0⟩
    have hpl:A.length<(zhk s.paths s.config.part (decide (zcw s.cum c.tag>s.cum)) A).length:=by rw [zhk,zy77];omega
    refine sT ?_;refine sOm ?_;refine zal (f:=fun n:Int=>[pi n]) h rfl (zw ?_);by_cases d1:n>0
    case pos =>
     rw [show decide (n>0)=true from zy12 d1];(conv=>whnf);refine zaa ⟨by omega,by rw [zy3];exact_mod_cast hpl⟩ (zw ?_);refine zaj (ybw.trans hp) rfl (zw ?_)
     (refine cL ?_;refine dL (Paths.yte p n s.config.part (decide (zcw s.cum c.tag>s.cum))) ?_)
     refine zaa ⟨by omega,by rw [zy3];exact_mod_cast hpl⟩ (zw ?_);refine zaj (ybw.trans hp) rfl (zw ?_);refine sD ?_;refine sF ?_;exact ⟨⟨(A++[n],B),zas h⟩,(zcy ((2,some 2)::((4,some 4)::(5,some 5)::(pJ8 []))) (by repeat' (first | exact z0 | refine z1 ?_ | refine ⟨?_,?_⟩ | ((exact (zfj rfl).trans (zar (by rw [zzj hp,zy1 d1];rfl)))) | exact z2))),by simp⟩
    case neg =>
     rw [show decide (n>0)=false from zy20 d1];(conv=>whnf);refine sF ?_;exact ⟨⟨(A++[n],B),zas h⟩,(zcy ((2,some 2)::((4,some 4)::(5,some 5)::(pJ8 []))) (by repeat' (first | exact z0 | refine z1 ?_ | refine ⟨?_,?_⟩ | ((exact zar (by rw [zzj hp,zy0 d1,zql (ybw.trans hp)]))) | exact z2))),by simp⟩
   | nil =>
    have hz:=zde h;rw [zy9] at h;refine sN ?_;have hcp:(zhk s.paths s.config.part (decide (zcw s.cum c.tag>s.cum)) A).length=s.paths.length:=by rw [zhk,zy77]
    (refine zac [] [(1000,5),(1001,900),(1002,901),(1003,902),(1004,903),(1005,904),(1006,905)] [(0,930),(1,931),(2,932),(3,933),(4,934),(5,935)] ?_;(conv=>whnf);refine dG (yed {s with cum:=zcw s.cum c.tag,room:=c.room,out:=K.1,paths:=zhk s.paths s.config.part (decide (zcw s.cum c.tag>s.cum)) A} hks zz60) ?_)
    rw [show zfd s c K=zfa {s with cum:=zcw s.cum c.tag,room:=c.room,out:=K.1,paths:=zhk s.paths s.config.part (decide (zcw s.cum c.tag>s.cum)) A} by rw [zfd,hK,h]] at hT;have hfl:(zfa {s with cum:=zcw s.cum c.tag,room:=c.room,out:=K.1,paths:=zhk s.paths s.config.part (decide (zcw s.cum c.tag>s.cum)) A}).paths.length=s.paths.length:=by
     show (List.mapIdx _ _).length=_;rw [zy77];exact hcp
    have hfo:(zfa {s with cum:=zcw s.cum c.tag,room:=c.room,out:=K.1,paths:=zhk s.paths s.config.part (decide (zcw s.cum c.tag>s.cum)) A}).out=K.1:=rfl;have hft:Fit (zfa {s with cum:=zcw s.cum c.tag,room:=c.room,out:=K.1,paths:=zhk s.paths s.config.part (decide (zcw s.cum c.tag>s.cum)) A}):=⟨h1,h2,hks,by omega,h5,h6,h7⟩
    generalize zfa {s with cum:=zcw s.cum c.tag,room:=c.room,out:=K.1,paths:=zhk s.paths s.config.part (decide (zcw s.cum c.tag>s.cum)) A}=t at hT hfl hfo hft ⊢;generalize decide (zcw s.cum c.tag>s.cum)=mv at hT ⊢;have hpl:=hr.p0;obtain ⟨hch,hch2⟩:=zeq (s:=t) zz0;obtain ⟨w,hw⟩:∃ w,t.paths[choose t]?=some w:=⟨_,zy2 hch2⟩
    obtain ⟨K1,K2,K3,K4⟩:=K;dsimp only at hT hcl hK hks h hz hfo hlo ⊢;rcases zy143 K4 with rfl | ⟨L,z,rfl⟩
    case inl =>
     rw [show zge s.config.part t []=t from rfl] at hT;(conv=>whnf);refine sD ?_;exact yy3
    case inr =>
     rw [zy123] at hT ⊢;have hU:zge s.config.part t (L++[z])=if z>t.recover then upS t s.config.part w else t:=by
      unfold zge;rw [List.getLast?_concat];dsimp only;rw [upS,setAt,hw]
     rw [hU] at hT;have hll:((L++[z]).map (fun n:Int=>[pi n])).length=L.length+1:=by simp
     have hLl:L.length<2 ^ 38:=by
      have:=hlo;rw [zy123,zy4] at this;simp only [zy8,zy16] at this;have:=h3.len;omega
     rw [show decide (((List.map (fun n:Int=>[pi n]) (L++[z])).length:Int)>0)=true from zy12 (by omega)];(conv=>whnf);refine sFm ?_;refine zaa zz0 (zw ?_);refine zal (f:=fun n:Int=>[pi n]) (a:=L) (b:=[]) (s:=z) rfl zz0 (zw ?_);refine sD ?_;by_cases e0:z>t.recover
     case neg =>
      rw [zy0 e0] at hT;rw [show decide (z>t.recover)=false from zy20 e0];(conv=>whnf)
      repeat refine sG ?_
      exact yy3
     case pos =>
      rw [zy1 e0] at hT;rw [show decide (z>t.recover)=true from zy12 e0];(conv=>whnf);have pc:=Paths.zev t.paths zz0;rw [hch] at pc
      (refine cL ?_;refine dL pc ?_)
      refine zaa zz15 (zw ?_);refine zaj hw rfl (zw ?_)
      (refine cL ?_;refine dL (Paths.zlt w s.config.part) ?_)
      refine zaa zz15 (zw ?_);refine zaj hw rfl (zw ?_);refine sD ?_;refine sR ?_
      (refine zac [] [(1000,932)] [(0,960)] ?_;(conv=>whnf);refine dG (Sco.zfk t.out t.cum zz88) ?_)
      cases mv with
      | false =>
       rw [show zej false (upS t s.config.part w)=(upS t s.config.part w) from zy0 (fun h=>absurd h.1 (by decide))] at hT;subst hT;(conv=>whnf)
       (refine zac [] [(1000,5),(1001,930),(1002,931),(1003,932),(1004,933),(1005,934),(1006,935)] [(0,980),(1,981),(2,982),(3,983),(4,984),(5,985)] ?_;(conv=>whnf);refine dG (zdz (upS t s.config.part w) ((Fit.up hft))) ?_ ⟨rfl,rfl,rfl,⟨zz1,⟨zz1,⟨zz1,⟨zz1,⟨⟨rfl,_,rfl,.inl ⟨rfl,(zfj rfl)⟩⟩,⟨zz1,⟨zz1,trivial⟩⟩⟩⟩⟩⟩⟩,⟨⟨rfl,rfl⟩,⟨⟨rfl,rfl⟩,⟨⟨rfl,rfl⟩,⟨⟨rfl,rfl⟩,⟨⟨rfl,rfl⟩,⟨⟨rfl,rfl⟩,trivial⟩⟩⟩⟩⟩⟩,rfl,rfl,rfl⟩)
       exact yy4
      | true =>
       (conv=>whnf);by_cases e1:(Sco.zeg t.out t.cum).1>t.cum
       case pos =>
        rw [show zej true (upS t s.config.part w)={(upS t s.config.part w) with forward:=true} from zy1 ⟨rfl,e1⟩] at hT;subst hT;rw [show decide ((Sco.zeg t.out t.cum).1>t.cum)=true from zy12 e1];(conv=>whnf)
        (refine zac [] [(1000,5),(1001,930),(1002,931),(1003,932),(1004,933),(1005,934),(1006,935)] [(0,980),(1,981),(2,982),(3,983),(4,984),(5,985)] ?_;(conv=>whnf);refine dG (zdz ({(upS t s.config.part w) with forward:=true}:zab) ((Fit.fwd (Fit.up hft)))) ?_ ⟨rfl,rfl,rfl,⟨zz1,⟨zz1,⟨zz1,⟨zz1,⟨⟨rfl,_,rfl,.inl ⟨rfl,(zfj rfl)⟩⟩,⟨zz1,⟨zz1,trivial⟩⟩⟩⟩⟩⟩⟩,⟨⟨rfl,rfl⟩,⟨⟨rfl,rfl⟩,⟨⟨rfl,rfl⟩,⟨⟨rfl,rfl⟩,⟨⟨rfl,rfl⟩,⟨⟨rfl,rfl⟩,trivial⟩⟩⟩⟩⟩⟩,rfl,rfl,rfl⟩)
        exact yy4
       case neg =>
        rw [show zej true (upS t s.config.part w)=(upS t s.config.part w) from zy0 (fun h=>e1 h.2)] at hT;subst hT;rw [show decide ((Sco.zeg t.out t.cum).1>t.cum)=false from zy20 e1];(conv=>whnf)
        (refine zac [] [(1000,5),(1001,930),(1002,931),(1003,932),(1004,933),(1005,934),(1006,935)] [(0,980),(1,981),(2,982),(3,983),(4,984),(5,985)] ?_;(conv=>whnf);refine dG (zdz (upS t s.config.part w) ((Fit.up hft))) ?_ ⟨rfl,rfl,rfl,⟨zz1,⟨zz1,⟨zz1,⟨zz1,⟨⟨rfl,_,rfl,.inl ⟨rfl,(zfj rfl)⟩⟩,⟨zz1,⟨zz1,trivial⟩⟩⟩⟩⟩⟩⟩,⟨⟨rfl,rfl⟩,⟨⟨rfl,rfl⟩,⟨⟨rfl,rfl⟩,⟨⟨rfl,rfl⟩,⟨⟨rfl,rfl⟩,⟨⟨rfl,rfl⟩,trivial⟩⟩⟩⟩⟩⟩,rfl,rfl,rfl⟩)
        exact yy4
theorem yzu (s:zab) (c:Chunk) (hs:Fit s) (hr:Sco.yri s.out s.cum s.paths.length) (hsp:c.zaq.length<2 ^ 60) :
 zao Tryz.prog 34 [s.hv,c.hv] zaf (zjo s c).hv zaf:=by
 refine zcl Tryz.func34 (ytl s c hs hr hsp) ?_;(conv=>whnf)
 rfl
end Snd
namespace Snd
open Ser
structure QI (c:Config) (fates:List Int) (m:zae):Prop where
 id0:0<=m.id
 id1:m.id<fates.length
 fate:fates[m.id.toNat]?=some 1
 st0:0<=m.message.stream
 st1:m.message.stream<c.streams
 len1:1<=m.message.data.length
 len2:m.message.data.length<=60
 parts:0<=m.parts
 sent:m.sent=m.parts*c.part
 left:m.sent<m.message.data.length
structure XI (np nf:Nat) (x:zbr):Prop where
 path0:0<=x.path
 path1:x.path<np
 id0:0<=x.id
 id1:x.id<nf
 zaq:x.chunk.zaq=[]
 zbv:x.chunk.zbv=[]
 data:x.chunk.data.length<=16
def zqe (q:List zae):Int:=(q.map fun m=>61-m.parts).sum
structure SI (N:Nat) (s:zab):Prop where
 cfg:zob s.config=0
 nums:∀ (i:Nat) x,s.out[i]?=some x->x.number=s.cum+1+i
 next:s.next=s.cum+1+s.out.length
 cum:s.config.first-1<=s.cum
 owes:s.next+zqe s.queue<=s.config.first+61*s.fates.length
 npaths:(s.paths.length:Int)=s.config.paths
 nhad:(s.sched.had.length:Int)=s.config.streams
 nmids:(s.mids.length:Int)=2*s.config.streams
 waits:(s.queue.length:Int)<=s.config.waiting
 queue:∀ m∈s.queue,QI s.config s.fates m
 out:∀ x∈s.out,XI s.paths.length s.fates.length x
 zak:∀ (i:Nat) p,s.paths[i]?=some p->p.zak=Sco.fl i s.out
 many:s.fates.length<=N
 few:N<=2 ^ 20
theorem zca {c:Config} (h:zob c=0):1<=c.streams/\c.streams<=4/\1<=c.paths/\c.paths<=2/\1<=c.part/\c.part<=16/\40<=c.packet/\c.packet<=120/\1<=c.waiting/\c.waiting<=12/\0<=c.first/\c.first<65536/\1<=(c).turns/\(c).turns<=5:=by
 unfold zob at h;split at h
 . cases h
 . split at h
   . cases h
   . omega
theorem QI.few {c:Config} {fates:List Int} {m:zae} (h:QI c fates m) (hp:1<=c.part):m.parts<=59:=by
 have h1:=h.sent;have h2:=h.left;have h3:=h.len2;have h4:=h.parts;have h5:m.parts*1<=m.parts*c.part:=Int.mul_le_mul_of_nonneg_left hp h4;omega
theorem zxa {c:Config} {fates:List Int} (hp:1<=c.part):∀ {q:List zae},(∀ m∈q,QI c fates m)->0<=zqe q
 | [],_=>by simp [zqe]
 | m::q,h=>by
  have h1:=(h m zz3).few hp;have h2:=zxa hp (q:=q) fun x hx=>h x zz28
  simp only [zqe,zy27,zy103] at h2 ⊢;omega
theorem zmt (m:zae) (q:List zae):zqe (m::q)=61-m.parts+zqe q:=by simp [zqe]
theorem znp (a b:List zae):zqe (a++b)=zqe a+zqe b:=by simp [zqe]
section
variable {N:Nat} {s:zab}
theorem SI.len (h:SI N s):(s.out.length:Int)<=61*N:=by
 have h1:=h.next;have h2:=h.cum;have h3:=h.owes;have h4:=zxa (by have:=zca h.cfg;omega) h.queue;have h5:=h.many;omega
theorem SI.nextle (h:SI N s):s.next<=65536+61*N:=by
 have h3:=h.owes;have h4:=zxa (by have:=zca h.cfg;omega) h.queue;have h5:=h.many;have h6:=zca h.cfg;omega
theorem yrb:∀ {l:List zbr},(∀ x∈l,x.chunk.data.length<=16)->Sco.total l<=16*l.length
 | [],_=>by simp [Sco.total]
 | x::l,h=>by
  have h1:=h x zz3;have h2:=yrb (l:=l) fun y hy=>h y zz40
  rw [Sco.zir,zy8];omega
theorem SI.total (h:SI N s):(Sco.total s.out:Int)<=16*(61*N):=by
 have h1:=yrb fun x hx=>(h.out x hx).data
 have h2:=h.len;omega
theorem SI.fit (h:SI N s):Fit s:=by
 have h1:=h.len;have h2:=h.few;have h3:=h.total;have h4:=zca h.cfg;have h5:=h.npaths;have h6:=h.nhad;have h7:=h.nmids;have h8:=h.waits;have h9:=h.many;exact ⟨by omega,by omega,⟨by omega,by omega⟩,by omega,by omega,by omega,fun m hm=>by have:=(h.queue m hm).len2;omega⟩
theorem SI.right (h:SI N s):Sco.yri s.out s.cum s.paths.length:=by
 have h1:=h.npaths;have h2:=zca h.cfg;have h3:=h.nextle;have h4:=h.next;have h5:=h.cum;have h6:=h.few;exact ⟨fun x hx=>⟨(h.out x hx).path0,(h.out x hx).path1⟩,by omega,by omega,by omega,by omega,h.nums⟩
theorem SI.pf (h:SI N s):PF 62 s:=by
 have h1:=h.len;have h2:=h.few;have h3:=h.total;have h4:=zca h.cfg;have h5:=h.npaths;have h6:=h.nhad;have h7:=h.nmids;have h8:=h.waits;have h9:=h.many;refine ⟨⟨h.fit,by omega,fun m hm=>⟨(h.queue m hm).id0,(h.queue m hm).id1⟩,fun x hx=>⟨(h.out x hx).id0,(h.out x hx).id1⟩⟩,by omega,by omega,by omega,fun m hm=>?_,fun x hx=>?_,by omega,by omega⟩
 . have q:=h.queue m hm
   have q1:=q.st0;have q2:=q.st1;have q3:=q.len2;have q4:=q.sent;have q5:=q.parts;have q6:0<=m.parts*s.config.part:=zy141 q5 zz0;refine ⟨⟨q1,by omega,by omega,by omega,fun _=>?_⟩,by omega,by omega,q.left,by omega⟩;unfold zhb;split<;>omega
 . have q:=h.out x hx
   exact ⟨by rw [q.zaq];decide,by rw [q.zbv];decide⟩
theorem SI.mono {M:Nat} (h:SI N s) (h1:N<=M) (h2:M<=2 ^ 20):SI M s:=⟨h.cfg,h.nums,h.next,h.cum,h.owes,h.npaths,h.nhad,h.nmids,h.waits,h.queue,h.out,h.zak,zy113 h.many h1,h2⟩
end
theorem xfw {c:Config} (h:zob c=0):SI 0 (zrx c):=by
 obtain ⟨h1,h2,h3,h4,h5,h6,h7,h8,h9,h10,h11,h12,h13,h14⟩:=zca h;refine ⟨h,fun i x hx=>?_,?_,?_,?_,?_,?_,?_,?_,fun m hm=>?_,fun x hx=>?_,fun i p hp=>?_,?_,by decide⟩
 . simp [zrx] at hx
 . simp [zrx]
 . show c.first-1<=c.first-1;omega
 . show c.first+zqe []<=c.first+61*(([]:List Int).length:Int);simp [zqe]
 . show ((List.replicate c.paths.toNat (Paths.new c.part)).length:Int)=c.paths;simp;omega
 . show ((Sch.new c.streams).had.length:Int)=c.streams
   simp [Sch.new];omega
 . show ((List.replicate (2*c.streams).toNat (0:Int)).length:Int)=2*c.streams;simp;omega
 . show (([]:List zae).length:Int)<=c.waiting;simp;omega
 . simp [zrx] at hm
 . simp [zrx] at hx
 . have hp:(List.replicate c.paths.toNat (Paths.new c.part))[i]?=some p:=hp
   rw [zy73] at hp;split at hp
   . cases hp;simp [Paths.new,Sco.fl,zrx]
   . cases hp
 . show ([]:List Int).length<=0;simp
theorem QI.more {c:Config} {fates:List Int} {m:zae} (h:QI c fates m) (f:Int):QI c (fates++[f]) m :=
 ⟨h.id0,by have:=h.id1;simp;omega,by have:=h.id0;have:=h.id1;rw [zy26 (by omega)];exact h.fate,h.st0,h.st1,h.len1,h.len2,h.parts,h.sent,h.left⟩
theorem XI.more {np nf nf':Nat} {x:zbr} (h:XI np nf x) (hn:nf<=nf'):XI np nf' x:=⟨h.path0,h.path1,h.id0,by have:=h.id1;omega,h.zaq,h.zbv,h.data⟩
theorem zxp {N:Nat} {s:zab} {m:Message} (h:SI N s) (he:zeu s m=0) (hN:N+1<=2 ^ 20):SI (N+1) (zgb s m):=by
 unfold zeu at he;split at he
 . cases he
 split at he
 . cases he
 split at he
 . cases he
 rename_i c1 c2 c3;refine ⟨h.cfg,h.nums,h.next,h.cum,?_,h.npaths,h.nhad,h.nmids,?_,fun q hq=>?_,fun x hx=>(h.out x hx).more (by simp [zgb]),h.zak,?_,hN⟩
 . have h1:=h.owes
   show s.next+zqe (s.queue++[⟨s.fates.length,-1,s.clock,0,0,m⟩])<=s.config.first+61*((s.fates++[1]).length:Int);rw [znp,zmt];simp only [zqe,zy87,zy158,zy4,zy8,zy16] at h1 ⊢;push_cast;omega
 . show ((s.queue++[_]).length:Int)<=s.config.waiting
   simp;omega
 . rcases zy10.1 hq with hq | hq
   . exact (h.queue q hq).more 1
   . rw [zy7] at hq;subst hq
     exact ⟨by simp,by simp [zgb];omega,by simp [zgb],by dsimp only;omega,by show m.stream<s.config.streams;omega,by dsimp only;omega,by dsimp only;omega,by simp,by simp,by dsimp only;omega⟩
 . have:=h.many
   show (s.fates++[1]).length<=N+1;simp;omega
theorem yvg (id:Int) (s:zab) (m:zae) (hm:m.parts<=60):W (s.next+1)=s.next+1->(zes id s m).next+zqe ([m].filter fun m=>decide (m.id≠id))<=s.next+zqe [m]:=by
 intro hW;unfold zes;by_cases c:m.id=id
 . have e1:[m].filter (fun m=>decide (m.id≠id))=[]:=by simp [c]
   rw [e1];split
   . show W (s.next+1)+zqe []<=_
     simp only [zqe,zy87,zy158,zy27,zy103];omega
   . simp only [zqe,zy87,zy158,zy27,zy103];omega
 . rw [zy0 (fun h=>c h.1)]
   simp [c,zqe]
theorem ynp (id:Int):∀ (q:List zae) (s:zab),(∀ m∈q,m.parts<=60)->-1000<=s.next->s.next+q.length<2 ^ 60->s.next=s.cum+1+s.out.length->(∀ (i:Nat) x,s.out[i]?=some x->x.number=s.cum+1+i) ->
 (q.foldl (zes id) s).next=s.cum+1+(q.foldl (zes id) s).out.length/\(∀ (i:Nat) x,(q.foldl (zes id) s).out[i]?=some x->x.number=s.cum+1+i)/\(q.foldl (zes id) s).next+zqe (q.filter fun m=>decide (m.id≠id))<=s.next+zqe q
 | [],s,_,_,_,h1,h2=>⟨h1,h2,zy80 _⟩
 | m::q,s,hq,h0,hb,h1,h2=>by
  have hW:W (s.next+1)=s.next+1:=by simp only [zy8] at hb;exact zbg zz0 zz0
  have hk:=zzo id s m;have hcum:(zes id s m).cum=s.cum:=by rw [hk]
  have ho:=yvg id s m (hq m zz3) hW;have h1':(zes id s m).next=(zes id s m).cum+1+(zes id s m).out.length/\s.next<=(zes id s m).next/\(zes id s m).next<=s.next+1:=by
   unfold zes;split
   . dsimp only;rw [hW];simp;omega
   . exact ⟨h1,by omega,by omega⟩
  have h2':∀ (i:Nat) x,(zes id s m).out[i]?=some x->x.number=(zes id s m).cum+1+i:=by
   rw [hcum];unfold zes;split
   . intro i x hx
     have hx:(s.out++[zhv s.next m])[i]?=some x:=hx;rcases zy71 i s.out.length with hi | hi
     . rw [zy26 hi] at hx;exact h2 i x hx
     . rw [zy42 hi] at hx
       have:i-s.out.length=0:=by
        rcases zy108 (i-s.out.length) with h | h
        . exact h
        . rw [zy52 (by simp;omega)] at hx;cases hx
       rw [this] at hx;cases hx;show s.next=_;omega
   . exact h2
  obtain ⟨r1,r2,r3⟩:=ynp id q (zes id s m) (fun x hx=>hq x zz28) zz0 (by simp only [zy8] at hb;push_cast at hb;omega) h1'.1 h2';rw [zy35];rw [hcum] at r1 r2;refine ⟨r1,r2,?_⟩;have e1:(m::q).filter (fun m=>decide (m.id≠id))=[m].filter (fun m=>decide (m.id≠id))++q.filter fun m=>decide (m.id≠id):=by rw [<- zy59];rfl
  rw [e1,znp,zmt];simp only [zqe,zy27,zy87,zy103,zy158] at ho r3 ⊢;omega
theorem yvi {np nf:Nat} (id:Int) (hnp:0<np) (hid:0<=id/\id<nf):∀ (q:List zae) (s:zab),(∀ x∈s.out,XI np nf x)->∀ x∈(q.foldl (zes id) s).out,XI np nf x
 | [],s,h,x,hx=>h x hx
 | m::q,s,h,x,hx=>by
  refine yvi id hnp hid q (zes id s m) (fun y hy=>?_) x hx;unfold zes at hy;split at hy
  . rename_i c
    rcases zy10.1 hy with hy | hy
    . exact h y hy
    . rw [zy7] at hy;subst hy
      exact ⟨zy80 _,by show (0:Int)<np;omega,by show 0<=m.id;omega,by show m.id<nf;omega,rfl,rfl,by simp [zhv]⟩
  . exact h y hy
theorem zzs {s:zab} {i:Nat} {p:Path} (h:(zfa s).paths[i]?=some p):p.zak=Sco.fl i s.out:=by
 have h:(s.paths.mapIdx fun i p=>flP s.out i p)[i]?=some p:=h;rw [zy47] at h;cases hp:s.paths[i]? with
 | none=>rw [hp] at h;cases h
 | some q=>rw [hp] at h;cases h;rfl
theorem zul (s:zab) (id:Nat):(zcd s id).out=(s.queue.foldl (zes id) {s with fates:=s.fates.set id 3}).out.map (Sco.zhg id):=rfl
theorem ygb (s:zab) (id:Nat):(zcd s id).next=(s.queue.foldl (zes id) {s with fates:=s.fates.set id 3}).next:=rfl
theorem zkq (s:zab) (id:Nat):(zcd s id).queue=s.queue.filter fun m=>decide (m.id≠(id:Int)):=rfl
theorem zgr (s:zab) (id:Nat):(zcd s id).fates=s.fates.set id 3:=by
 show (s.queue.foldl (zes id) {s with fates:=s.fates.set id 3}).fates=_;rw [zrk]
theorem ykw {s:zab} {id:Nat} {i:Nat} {p:Path} (h:(zcd s id).paths[i]?=some p):p.zak=Sco.fl i (zcd s id).out:=by
 unfold zcd at h ⊢;dsimp only at h ⊢;have:=zzs h;exact this
theorem ycl {N:Nat} {s:zab} (h:SI N s) {id:Nat} (hid:id<s.fates.length):SI N (zcd s id):=by
 obtain ⟨r,-,-,-⟩:=ziw s id;have hw:=zca h.cfg;have hl:=h.nextle;have hw2:=h.waits;have hf:=h.few;have hc:=h.cum;have hn:=h.next;obtain ⟨e1,e2,e3⟩:=ynp id s.queue {s with fates:=s.fates.set id 3} (fun m hm=>by have:=(h.queue m hm).few zz0;omega) zz60 zz60 h.next h.nums;refine ⟨by rw [r.config];exact h.cfg,fun i x hx=>?_,?_,by rw [r.config,r.cum];exact h.cum,?_,by rw [r.paths,r.config];exact h.npaths,by rw [r.had,r.config];exact h.nhad,by rw [r.mids,r.config];exact h.nmids,?_,fun m hm=>?_,fun x hx=>?_,fun i p hp=>?_,by rw [r.fates];exact h.many,h.few⟩
 . rw [zul,zy13] at hx
   cases hy:(s.queue.foldl (zes id) {s with fates:=s.fates.set id 3}).out[i]? with
   | none=>rw [hy] at hx;cases hx
   | some y =>
    rw [hy] at hx;cases hx;rw [r.cum,show (Sco.zhg id y).number=y.number by unfold Sco.zhg;split<;>rfl];exact e2 i y hy
 . rw [ygb,zul,r.cum,zy3];exact e1
 . rw [ygb,zkq,r.config,r.fates]
   have:=h.owes;dsimp only at e3;omega
 . rw [zkq,r.config]
   have:=zy72 (fun m:zae=>decide (m.id≠(id:Int))) s.queue;omega
 . rw [zkq] at hm
   obtain ⟨hm1,hm2⟩:=zy54.1 hm;have hm2:m.id≠id:=zy39 hm2;have q:=h.queue m hm1;have q0:=q.id0;rw [r.config,zgr];exact ⟨q.id0,by rw [zy25];exact q.id1,by rw [zy29 (by omega)];exact q.fate,q.st0,q.st1,q.len1,q.len2,q.parts,q.sent,q.left⟩
 . rw [zul] at hx
   obtain ⟨y,hy,rfl⟩:=zy23.1 hx;have hp:=h.npaths;have:=yvi (np:=s.paths.length) (nf:=s.fates.length) id zz0 ⟨by omega,by omega⟩ s.queue {s with fates:=s.fates.set id 3} h.out y hy;rw [r.paths,r.fates];unfold Sco.zhg;split
   . exact ⟨this.path0,this.path1,this.id0,this.id1,this.zaq,this.zbv,this.data⟩
   . exact this
 . exact ykw hp
theorem xht {N:Nat} {s:zab} (h:SI N s) {m:zae} (hm:0<=m.id/\m.id<s.fates.length):SI N (zhw s m)/\(zhw s m).fates.length=s.fates.length:=by
 unfold zhw;exact yy83
theorem xhx {N:Nat} {s:zab} (h:SI N s) {m:zbr} (hm:0<=m.id/\m.id<s.fates.length):SI N (zgt s m)/\(zgt s m).fates.length=s.fates.length:=by
 unfold zgt;exact yy83
theorem zps {N:Nat}:∀ (q:List zae) (s:zab),SI N s->(∀ m∈q,0<=m.id/\m.id<s.fates.length)->SI N (q.foldl zhw s)/\(q.foldl zhw s).fates.length=s.fates.length
 | [],s,h,_=>⟨h,rfl⟩
 | m::q,s,h,hq=>by
  obtain ⟨a,b⟩:=xht h (hq m zz3);obtain ⟨c,d⟩:=zps q (zhw s m) a fun x hx=>by rw [b];exact hq x zz28
  exact ⟨c,d.trans b⟩
theorem yoa {N:Nat}:∀ (q:List zbr) (s:zab),SI N s->(∀ m∈q,0<=m.id/\m.id<s.fates.length)->SI N (q.foldl zgt s)/\(q.foldl zgt s).fates.length=s.fates.length
 | [],s,h,_=>⟨h,rfl⟩
 | m::q,s,h,hq=>by
  obtain ⟨a,b⟩:=xhx h (hq m zz3);obtain ⟨c,d⟩:=yoa q (zgt s m) a fun x hx=>by rw [b];exact hq x zz28
  exact ⟨c,d.trans b⟩
theorem zmi {N:Nat} {s:zab} (h:SI N s):SI N (expire s)/\(expire s).fates.length=s.fates.length:=by
 obtain ⟨a,b⟩:=zps s.queue s h fun m hm=>⟨(h.queue m hm).id0,(h.queue m hm).id1⟩
 obtain ⟨c,d⟩:=yoa (s.queue.foldl zhw s).out _ a fun x hx=>⟨(a.out x hx).id0,(a.out x hx).id1⟩
 exact ⟨c,d.trans b⟩
end Snd
namespace Snd
open Ser
theorem zfv {α:Type} (l:List α) (k:Nat) (f:α->α):(setAt l k f).length=l.length:=by
 unfold setAt;split<;>simp
theorem zxq {α:Type} {l:List α} {k:Nat} {f:α->α} {i:Nat} {y:α} (h:(setAt l k f)[i]?=some y):(i≠k/\l[i]?=some y)\/(i=k/\∃ x,l[k]?=some x/\y=f x):=by
 unfold setAt at h;split at h
 . rename_i hn
   by_cases e:i=k
   . subst e;rw [hn] at h;cases h
   . exact .inl ⟨e,h⟩
 . rename_i x hx
   by_cases e:i=k
   . subst e
     have hk:=(zy11.1 hx).1;rw [zy17 hk] at h;cases h;exact .inr ⟨rfl,x,hx,rfl⟩
   . rw [zy29 (fun h=>e h.symm)] at h;exact .inl ⟨e,h⟩
theorem zrn (p:Int) (x:zbr) (l:List zbr):Sco.fl p (x::l)=Sco.fl p [x]+Sco.fl p l:=by
 rw [show x::l=[x]++l from rfl,Sco.yvs]
theorem xfg (p:Int):∀ {l:List zbr} {i:Nat} {x:zbr},l[i]?=some x->∀ y,Sco.fl p (l.set i y)+Sco.fl p [x]=Sco.fl p l+Sco.fl p [y]
 | [],i,x,h,y=>by simp at h
 | z::l,0,x,h,y=>by
  simp only [List.getElem?_cons_zero,Option.some.injEq] at h;subst h;rw [zy134,zrn,zrn p z l];omega
 | z::l,i+1,x,h,y=>by
  simp only [zy93] at h;have:=xfg p h y;rw [zy121,zrn,zrn p z l];omega
section
variable {N:Nat} {s:zab}
theorem SI.side (h:SI N s) {ps:List Path} {k:Int} {r:Int} {f:Bool} {z:Int} (hl:ps.length=s.paths.length) (hf:∀ (i:Nat) p,ps[i]?=some p->p.zak=Sco.fl i s.out) :
 SI N {s with paths:=ps,clock:=k,room:=r,forward:=f,recover:=z} :=
 ⟨h.cfg,h.nums,h.next,h.cum,h.owes,by show (ps.length:Int)=_;rw [hl];exact h.npaths,h.nhad,h.nmids,h.waits,h.queue,fun x hx=>by show XI ps.length _ x;rw [hl];exact h.out x hx,hf,h.many,h.few⟩
theorem choose_lt' (h:SI N s):choose s<s.paths.length:=(zeq h.pf.some).2
theorem znl {o:List (List Chunk)} (h:SI N s):SI N (forward ⟨s,o⟩).s:=by
 unfold forward;split
 . exact h
 . refine h.side (zfv _ _ _) fun i p hp=>?_
   rcases zxq hp with ⟨-,hp⟩ | ⟨rfl,q,hq,rfl⟩
   . exact h.zak i p hp
   . rw [<- h.zak _ q hq]
     unfold zcm;split<;>rfl
theorem yvw {p:zfs} (h:SI N p.s) {i path:Nat} {x:zbr} (hx:p.s.out[i]?=some x) (hst:x.state≠1) (hp:path<p.s.paths.length):SI N (fly p i path).s:=by
 obtain ⟨s,o⟩:=p;dsimp only at h hx hp;have hxm:=zy5 hx;have hxi:=h.out x hxm;have hil:=(zy11.1 hx).1;have hw:=zca h.cfg;have hnp:=h.npaths;have htot:=h.total;have hfew:=h.few;have h0:∀ q:Int,Sco.fl q [x]=0:=fun q=>by rw [Sco.zzq,zy0 (fun h=>hst h.1)]
 unfold fly;simp only [hx];refine ⟨h.cfg,fun j y hy=>?_,?_,h.cum,h.owes,?_,h.nhad,h.nmids,h.waits,h.queue,fun y hy=>?_,fun j q hq=>?_,h.many,h.few⟩
 . have hy:(s.out.set i (zuj x path))[j]?=some y:=hy
   by_cases e:i=j
   . subst e
     rw [zy17 hil] at hy;cases hy;exact h.nums i x hx
   . rw [zy29 e] at hy;exact h.nums j y hy
 . show s.next=s.cum+1+((s.out.set i _).length:Int)
   rw [zy25];exact h.next
 . show ((setAt s.paths path _).length:Int)=_
   rw [zfv];exact h.npaths
 . have hy:y∈s.out.set i (zuj x path):=hy
   show XI (setAt s.paths path _).length _ y;rw [zfv];rcases zy45 hy with hy | rfl
   . exact h.out y hy
   . exact ⟨by show (0:Int)<=path;omega,by show (path:Int)<s.paths.length;omega,hxi.id0,hxi.id1,hxi.zaq,hxi.zbv,hxi.data⟩
 . show q.zak=(Sco.fl j (s.out.set i (zuj x path)):Nat)
   have e1:=xfg (j:Int) hx (zuj x path);rw [h0] at e1;have e2:Sco.fl (j:Int) [zuj x path]=if path=j then x.chunk.data.length else 0:=by
    rw [Sco.zzq];by_cases e:path=j
    . rw [zy1 e,zy1 ⟨rfl,by show (path:Int)=j;omega⟩];rfl
    . rw [zy0 e,zy0 (by rintro ⟨-,h⟩;have h:(path:Int)=j:=h;omega)]
   rcases zxq hq with ⟨ne,hq⟩ | ⟨rfl,w,hw2,rfl⟩
   . rw [h.zak j q hq]
     rw [zy0 (fun h=>ne h.symm)] at e2;omega
   . rw [zy1 rfl] at e2
     have e3:=h.zak j w hw2;have e4:=Sco.xib (j:Int) s.out;have e5:=hxi.data;show W (w.zak+x.chunk.data.length)=_;rw [e3,zbg (by omega) (by omega)];omega
theorem yus {p:zfs} (h:SI N p.s) {path:Nat} (hp:path<p.s.paths.length) (i:Nat):SI N (zct path p i).s/\(zct path p i).s.paths.length=p.s.paths.length:=by
 unfold zct;split
 . exact ⟨h,rfl⟩
 . rename_i x hx
   split
   . rename_i c
     refine ⟨yvw h hx (by rw [c.1];decide) hp,?_⟩;unfold fly;simp only [hx];exact zfv _ _ _
   . exact ⟨h,rfl⟩
theorem yew {path:Nat}:∀ (L:List Nat) {p:zfs},SI N p.s->path<p.s.paths.length->SI N (L.foldl (zct path) p).s
 | [],_,h,_=>h
 | i::L,p,h,hp=>by
  obtain ⟨a,b⟩:=yus h hp i;exact yew L a (by rw [b];exact hp)
theorem zue {p:zfs} (h:SI N p.s):SI N (again p).s:=yew _ h (choose_lt' h)
theorem xdv {q:List zae} {k:Nat} {m y:zae} (h:q[k]?=some m):zqe (q.set k y)=zqe q+m.parts-y.parts:=by
 obtain ⟨a,b,rfl,rfl⟩:∃ a b,q=a++m::b/\a.length=k:=⟨q.take k,q.drop (k+1),by
  have hk:=(zy11.1 h)
  obtain ⟨hk,e⟩:=hk;rw [<- e,zy120,zy28],by have:=(zy11.1 h).1;simp;omega⟩
 rw [zy172 _ _ (zy19 _),zy91,zy134,znp,znp,zmt,zmt];omega
theorem ysx {q:List zae} {k:Nat} {m:zae} (h:q[k]?=some m):zqe (q.eraseIdx k)=zqe q+m.parts-61:=by
 obtain ⟨a,b,rfl,rfl⟩:∃ a b,q=a++m::b/\a.length=k:=⟨q.take k,q.drop (k+1),by
  have hk:=(zy11.1 h)
  obtain ⟨hk,e⟩:=hk;rw [<- e,zy120,zy28],by have:=(zy11.1 h).1;simp;omega⟩
 rw [List.eraseIdx_append_of_length_le (zy19 _),zy91,List.eraseIdx_cons_zero,znp,znp,zmt];omega
theorem ysp (s:zab) (m:zae):(zcz s m).length=s.mids.length:=by
 unfold zcz;split
 . exact zfv _ _ _
 . rfl
theorem ywg (sc:ziu) (m:zae) (n:Int) (o:Bool):(Sch.had sc m n o).had.length=sc.had.length:=by
 unfold Sch.had;dsimp only;split<;>simp
def zrj (s:zab) (k:Nat) (m:zae):zab :=
 {s with mids:=zcz s m,sched:=Sch.had s.sched {m with mid:=zbt s m} (many s m) (decide (m.sent+many s m=m.message.data.length)),out:=s.out++[⟨s.next,m.id,0,0,0,0,m.came,m.message.life,m.message.tries,cut s m (many s m)⟩],next:=W (s.next+1),queue:=if decide (m.sent+many s m=m.message.data.length) then s.queue.eraseIdx k else s.queue.set k {m with mid:=zbt s m,sent:=m.sent+many s m,parts:=W (m.parts+1)}}
theorem zjd (s:zab) (o:List (List Chunk)) (k:Nat) (m:zae):ylq ⟨s,o⟩ k m (many s m)=fly ⟨zrj s k m,o⟩ s.out.length (choose s):=rfl
theorem xmc (h:SI N s) {k:Nat} {m:zae} (hm:s.queue[k]?=some m):SI N (zrj s k m):=by
 have hw:=zca h.cfg;have q:=h.queue m (zy5 hm);have hfew:=q.few zz0;have hN:=h.few;have hnl:=h.nextle;have hcum:=h.cum;have hnx:=h.next;have hp:=h.npaths;have q1:=q.parts;have q2:=q.sent;have q3:=q.left;have q4:=q.len2;have q5:0<=m.parts*s.config.part:=zy141 q1 zz0;obtain ⟨n1,n2,n3⟩:=zru (s:=s) (m:=m) zz0 zz0 zz0 q3 zz0;have n4:many s m<=s.config.part:=by unfold many;split<;>omega
 have hW:W (s.next+1)=s.next+1:=zbg zz0 zz0;have hWp:W (m.parts+1)=m.parts+1:=zbg zz0 zz0;refine ⟨h.cfg,fun j y hy=>?_,?_,h.cum,?_,h.npaths,?_,?_,?_,fun y hy=>?_,fun y hy=>?_,fun j p hp=>?_,h.many,h.few⟩
 . have hy:(s.out++[_])[j]?=some y:=hy
   rcases zy71 j s.out.length with hj | hj
   . rw [zy26 hj] at hy;exact h.nums j y hy
   . rw [zy42 hj] at hy
     have e:j-s.out.length=0:=by
      rcases zy108 (j-s.out.length) with h | h
      . exact h
      . rw [zy52 (by simp;omega)] at hy;cases hy
     rw [e] at hy;cases hy;show s.next=s.cum+1+j;omega
 . show W (s.next+1)=s.cum+1+((s.out++[_]).length:Int)
   rw [hW,zy4,zy48];push_cast;omega
 . have:=h.owes
   show W (s.next+1)+zqe (if decide (m.sent+many s m=m.message.data.length) then s.queue.eraseIdx k else s.queue.set k {m with mid:=zbt s m,sent:=m.sent+many s m,parts:=W (m.parts+1)})<=s.config.first+61*(s.fates.length:Int);rw [hW];split
   . rw [ysx hm];omega
   . rw [xdv hm];dsimp only;rw [hWp];omega
 . show ((Sch.had s.sched _ _ _).had.length:Int)=_
   rw [ywg];exact h.nhad
 . show ((zcz s m).length:Int)=_
   rw [ysp];exact h.nmids
 . show ((if decide (m.sent+many s m=m.message.data.length) then s.queue.eraseIdx k else s.queue.set k {m with mid:=zbt s m,sent:=m.sent+many s m,parts:=W (m.parts+1)}).length:Int)<=s.config.waiting
   have:=h.waits;split
   . rw [zy105];split<;>omega
   . rw [zy25];exact this
 . have hy:y∈(if decide (m.sent+many s m=m.message.data.length) then s.queue.eraseIdx k else s.queue.set k {m with mid:=zbt s m,sent:=m.sent+many s m,parts:=W (m.parts+1)}):=hy
   show QI s.config s.fates y;split at hy
   . exact h.queue y (zy65 hy)
   . rename_i c
     have c:m.sent+many s m≠m.message.data.length:=by simpa using c
     rcases zy45 hy with hy | rfl
     . exact h.queue y hy
     . have e:many s m=s.config.part:=by
        unfold many at c ⊢;split at c
        . omega
        . rename_i c2;rw [zy0 c2]
       refine ⟨q.id0,q.id1,q.fate,q.st0,q.st1,q.len1,q.len2,?_,?_,?_⟩
       . show 0<=W (m.parts+1);omega
       . show m.sent+many s m=W (m.parts+1)*s.config.part
         rw [hWp,e,q2,Int.add_mul,Int.one_mul]
       . show m.sent+many s m<m.message.data.length;omega
 . have hy:y∈s.out++[_]:=hy
   rcases zy10.1 hy with hy | hy
   . exact h.out y hy
   . rw [zy7] at hy;subst hy
     refine ⟨zy80 _,by show (0:Int)<s.paths.length;omega,q.id0,q.id1,rfl,rfl,?_⟩;show ((m.message.data.drop m.sent.toNat).take (many s m).toNat).length<=16;rw [zy55];omega
 . show p.zak=(Sco.fl j (s.out++[_]):Nat)
   rw [Sco.yvs,h.zak j p hp,Sco.zzq,zy0 (by rintro ⟨h,-⟩;cases h)];rfl
theorem yde {p q:zfs} (h:SI N p.s) (hq:next p=some q):SI N q.s:=by
 obtain ⟨s,o⟩:=p;unfold next at hq;dsimp only at hq h;split at hq
 . cases hq
 rename_i c;cases hm:s.queue[(zdh s).toNat]? with
 | none=>rw [hm] at hq;cases hq
 | some m =>
  rw [hm] at hq;dsimp only at hq;split at hq
  . cases hq
  . cases hq
    rw [zjd];have h2:=xmc h hm;exact yvw (p:=⟨zrj s (zdh s).toNat m,o⟩) h2 (x:=⟨s.next,m.id,0,0,0,0,m.came,m.message.life,m.message.tries,cut s m (many s m)⟩) (by show (s.out++[_])[s.out.length]?=_;simp) (by intro h;cases h) (choose_lt' h)
theorem ypr:∀ (n:Nat) {p:zfs},SI N p.s->SI N (zga n p).s
 | 0,_,h=>h
 | n+1,p,h=>by
  unfold zga;split
  . exact h
  . rename_i q hq;exact ypr n (yde h hq)
theorem xev (h:SI N s):SI N (yjw s):=by
 refine h.side zz3 fun i p hp=>?_
 rw [zy13] at hp;cases hq:s.paths[i]? with
 | none=>rw [hq] at hp;cases hp
 | some q =>
  rw [hq] at hp;cases hp;rw [<- h.zak i q hq];unfold zgv;split
  . rfl
  . split<;>rfl
theorem yyv (h:SI N s):SI N (zfc s).1:=xev (ypr 61 (zue (znl (zmi h).1)))
theorem zlh {n:Int}:∀ {l:List zbr} {cum:Int},(∀ (i:Nat) x,l[i]?=some x->x.number=cum+1+i)->cum<=n->l.filter (fun x=>decide (x.number>n))=l.drop (n-cum).toNat
 | [],_,_,_=>by simp
 | x::l,cum,h,hn=>by
  have h0:=h 0 x rfl;have h1:∀ (i:Nat) y,l[i]?=some y->y.number=cum+1+1+i:=fun i y hy=>by
   have:=h (i+1) y (by rw [zy93];exact hy);push_cast at this;omega
  by_cases c:cum=n
  . subst c
    have:∀ y∈x::l,y.number>cum:=fun y hy=>by
     obtain ⟨i,hi⟩:=zy33 hy;have:=h i y hi;omega
    rw [zy88.2 fun y hy=>zy12 (this y hy)];simp
  . rw [zy64,zy0 (by simp at h0 ⊢;omega),zlh h1 (by omega)]
    have:(n-cum).toNat=(n-(cum+1)).toNat+1:=by omega
    rw [this,zy149]
theorem xkb {l:List zbr} {cum:Int} {c:Chunk} {np:Int} (h:∀ (i:Nat) x,l[i]?=some x->x.number=cum+1+i) (hk:¬ (zcw cum c.tag<cum\/zcw cum c.tag>cum+l.length)) :
 ∃ g:zbr->zbr,(∀ x,(g x).number=x.number/\(g x).path=x.path/\(g x).id=x.id/\(g x).chunk=x.chunk)/\(Sco.zex l cum c np).1=(l.drop (zcw cum c.tag-cum).toNat).map g:=by
 refine ⟨fun x=>Sco.age (Sco.zgi c (zcw cum c.tag) l) (Sco.zbf c (zcw cum c.tag) x),fun x=>?_,?_⟩
 . have e1:∀ (k:Int) y,(Sco.age k y).number=y.number/\(Sco.age k y).path=y.path/\(Sco.age k y).id=y.id/\(Sco.age k y).chunk=y.chunk:=fun k y=>by unfold Sco.age;(repeat' split)<;>exact ⟨rfl,rfl,rfl,rfl⟩
   have e2:∀ k y,(Sco.zbf c k y).number=y.number/\(Sco.zbf c k y).path=y.path/\(Sco.zbf c k y).id=y.id/\(Sco.zbf c k y).chunk=y.chunk:=fun k y=>by unfold Sco.zbf;split<;>exact ⟨rfl,rfl,rfl,rfl⟩
   obtain ⟨a1,a2,a3,a4⟩:=e1 (Sco.zgi c (zcw cum c.tag) l) (Sco.zbf c (zcw cum c.tag) x);obtain ⟨b1,b2,b3,b4⟩:=e2 (zcw cum c.tag) x;exact ⟨a1.trans b1,a2.trans b2,a3.trans b3,a4.trans b4⟩
 . rw [Sco.zex,zy0 hk]
   dsimp only;rw [Sco.left,zlh h (by omega),zy94];rfl
theorem zwl (h:SI N s) {c:Chunk} (hk:¬ (zcw s.cum c.tag<s.cum\/zcw s.cum c.tag>s.cum+s.out.length)):SI N (zfd s c (Sco.zex s.out s.cum c s.paths.length)):=by
 obtain ⟨g,hg,e⟩:=xkb (np:=s.paths.length) h.nums hk;have e2:(Sco.zex s.out s.cum c s.paths.length).2.1=zcw s.cum c.tag:=by rw [Sco.zex,zy0 hk]
 have hl:(zfd s c (Sco.zex s.out s.cum c s.paths.length)).paths.length=s.paths.length:=by
  show (List.mapIdx _ (List.mapIdx _ _)).length=_;simp
 have ho:(zfd s c (Sco.zex s.out s.cum c s.paths.length)).out=(s.out.drop (zcw s.cum c.tag-s.cum).toNat).map g:=e;have hc:(zfd s c (Sco.zex s.out s.cum c s.paths.length)).cum=zcw s.cum c.tag:=e2;have hn:=h.next;have hcu:=h.cum;refine ⟨h.cfg,fun i x hx=>?_,?_,?_,h.owes,by rw [hl];exact h.npaths,h.nhad,h.nmids,h.waits,h.queue,fun x hx=>?_,fun i p hp=>?_,h.many,h.few⟩
 case refine_5=>have:=zzs (s:={s with out:=(Sco.zex s.out s.cum c s.paths.length).1,cum:=(Sco.zex s.out s.cum c s.paths.length).2.1,room:=c.room,paths:=zhk s.paths s.config.part (decide ((Sco.zex s.out s.cum c s.paths.length).2.1>s.cum)) (Sco.zex s.out s.cum c s.paths.length).2.2.1}) hp;exact this
 . rw [ho,zy13,zy46] at hx
   cases hy:s.out[(zcw s.cum c.tag-s.cum).toNat+i]? with
   | none=>rw [hy] at hx;cases hx
   | some y =>
    rw [hy] at hx;cases hx;rw [(hg y).1,h.nums _ y hy,hc];push_cast;omega
 . rw [ho,hc,zy3,zy37]
   show s.next=_;omega
 . rw [hc];show s.config.first-1<=_;omega
 . rw [ho] at hx
   obtain ⟨y,hy,rfl⟩:=zy23.1 hx;have q:=h.out y (zy70 hy);obtain ⟨g1,g2,g3,g4⟩:=hg y;rw [hl];exact yy69
theorem ygl (h:SI N s) {part:Int} {L:List Int}:SI N (zge part s L):=by
 unfold zge;split
 . exact h
 . split
   . refine h.side (zfv _ _ _) fun i p hp=>?_
     rcases zxq hp with ⟨-,hp⟩ | ⟨rfl,q,hq,rfl⟩
     . exact h.zak i p hp
     . rw [<- h.zak _ q hq];rfl
   . exact h
theorem ygm (h:SI N s) {b:Bool}:SI N (zej b s):=by
 unfold zej;split
 . exact h.side rfl h.zak
 . exact h
theorem yzk (h:SI N s):SI N (settle s):=by
 have hl:(settle s).fates.length=s.fates.length:=by show (List.mapIdx _ _).length=_;simp
 refine ⟨h.cfg,h.nums,h.next,h.cum,by rw [hl];exact h.owes,h.npaths,h.nhad,h.nmids,h.waits,fun m hm=>?_,fun x hx=>by rw [hl];exact h.out x hx,h.zak,by rw [hl];exact h.many,h.few⟩;have hm:m∈s.queue:=hm;have q:=h.queue m hm;have q0:=q.id0;refine ⟨q.id0,by rw [hl];exact q.id1,?_,q.st0,q.st1,q.len1,q.len2,q.parts,q.sent,q.left⟩;show (s.fates.mapIdx fun id f=>settled s id f)[m.id.toNat]?=some 1;rw [zy47,q.fate];show some (settled s m.id.toNat 1)=some 1;rw [settled,zy0];rintro ⟨-,h2,-⟩;rw [zy114] at h2;exact h2 m hm (zy12 zz0)
theorem ywl (h:SI N s) (c:Chunk):SI N (zjo s c):=by
 unfold zjo;split
 . exact h
 split
 . exact h
 . rename_i c1 c2
   rw [zil];exact yzk (ygm (ygl (zwl h c2)))
theorem yvu (i j:Nat):∀ l:List zbr,Sco.fl j (l.map (Sco.late i))=if i=j then 0 else Sco.fl j l
 | []=>by simp [Sco.fl]
 | x::l=>by
  rw [zy27,zrn,yvu i j l,zrn (j:Int) x l,Sco.zzq,Sco.zzq];unfold Sco.late;by_cases c:x.state=1/\x.path=i
  . rw [zy1 c,zy0 (by rintro ⟨h,-⟩;cases h)]
    by_cases e:i=j
    . rw [zy1 e,zy1 e]
    . rw [zy0 e,zy0 e,zy0 (by rintro ⟨-,h⟩;have:=c.2;omega)]
  . rw [zy0 c]
    by_cases e:i=j
    . subst e;rw [zy1 rfl,zy1 rfl,zy0 c]
    . rw [zy0 e,zy0 e]
theorem ypg (h:SI N s) (part:Int) (i:Nat):SI N (zdy part s i):=by
 unfold zdy;split
 . exact h
 rename_i p hp;split
 . exact h
 have hil:=(zy11.1 hp).1;have h2:SI N {s with out:=s.out.map (Sco.late i),paths:=s.paths.set i (Paths.late p part)}:=by
  have e:∀ x,(Sco.late i x).number=x.number/\(Sco.late i x).path=x.path/\(Sco.late i x).id=x.id/\(Sco.late i x).chunk=x.chunk:=fun x=>by unfold Sco.late;split<;>exact ⟨rfl,rfl,rfl,rfl⟩
  refine ⟨h.cfg,fun j y hy=>?_,?_,h.cum,h.owes,?_,h.nhad,h.nmids,h.waits,h.queue,fun y hy=>?_,fun j q hq=>?_,h.many,h.few⟩
  . have hy:(s.out.map (Sco.late i))[j]?=some y:=hy
    rw [zy13] at hy;cases hz:s.out[j]? with
    | none=>rw [hz] at hy;cases hy
    | some z=>rw [hz] at hy;cases hy;rw [(e z).1];exact h.nums j z hz
  . show s.next=s.cum+1+((s.out.map (Sco.late i)).length:Int)
    rw [zy3];exact h.next
  . show ((s.paths.set i _).length:Int)=_
    rw [zy25];exact h.npaths
  . have hy:y∈s.out.map (Sco.late i):=hy
    obtain ⟨z,hz,rfl⟩:=zy23.1 hy;have q:=h.out z hz;obtain ⟨g1,g2,g3,g4⟩:=e z;show XI (s.paths.set i _).length _ _;rw [zy25];exact yy69
  . have hq:(s.paths.set i (Paths.late p part))[j]?=some q:=hq
    show q.zak=(Sco.fl j (s.out.map (Sco.late i)):Nat);rw [yvu];by_cases e:i=j
    . subst e
      rw [zy17 hil] at hq;cases hq;rw [zy1 rfl];rfl
    . rw [zy29 e] at hq
      rw [zy0 e];exact h.zak j q hq
 dsimp only;split
 . exact h2.side rfl h2.zak
 . exact h2
theorem ypj (part:Int):∀ (L:List Nat) {s:zab},SI N s->SI N (L.foldl (zdy part) s)
 | [],_,h=>h
 | i::L,_,h=>ypj part L (ypg h part i)
theorem zyg (h:SI N s):SI N (tick s):=ypj _ _ (h.side rfl h.zak)
end
end Snd
namespace Sch
end Sch
namespace Sco
open Ser
end Sco
namespace Sco
open Ser
end Sco
namespace Sco
open Ser
end Sco
namespace Snd
open Ser
end Snd
namespace Snd
open Ser
end Snd
namespace Snd
open Ser
end Snd
namespace Snd
open Ser
end Snd
namespace Snd
open Ser
end Snd
namespace Snd
open Ser
end Snd
namespace Snd
open Ser
def ybi (L:List Message) (k:Nat):Prop:=∀ m,L[k]?=some m->m.life≠0\/m.tries≠0
structure KI (L:List Message) (s:zab):Prop where
 len:s.fates.length=L.length
 queue:∀ m∈s.queue,L[m.id.toNat]?=some m.message
 out:∀ x∈s.out,(x.life>0\/x.tries>0)->ybi L x.id.toNat
 gone:∀ k:Nat,s.fates[k]?=some 3->ybi L k
theorem zzp {L:List Message} (id:Int):∀ (q:List zae) (s:zab),(∀ x∈s.out,(x.life>0\/x.tries>0)->ybi L x.id.toNat)->∀ x∈(q.foldl (zes id) s).out,(x.life>0\/x.tries>0)->ybi L x.id.toNat
 | [],s,h,x,hx=>h x hx
 | m::q,s,h,x,hx=>by
  refine zzp id q (zes id s m) (fun y hy=>?_) x hx;unfold zes at hy;split at hy
  . rcases zy10.1 hy with hy | hy
    . exact h y hy
    . rw [zy7] at hy;subst hy
      intro hh;rcases hh with hh | hh<;>exact absurd hh (Int.lt_irrefl 0)
  . exact h y hy
section
variable {L:List Message} {s:zab}
theorem ywc (h:KI L s) {id:Nat} (hid:ybi L id):KI L (zcd s id):=by
 refine ⟨by rw [zgr,zy25];exact h.len,fun m hm=>?_,fun x hx=>?_,fun k hk=>?_⟩
 . rw [zkq] at hm;exact h.queue m (zy54.1 hm).1
 . rw [zul] at hx
   obtain ⟨y,hy,rfl⟩:=zy23.1 hx;have:=zzp id s.queue {s with fates:=s.fates.set id 3} h.out y hy;unfold Sco.zhg;split<;>exact this
 . rw [zgr] at hk
   by_cases e:id=k
   . subst e;exact hid
   . rw [zy29 e] at hk;exact h.gone k hk
theorem xhr (h:KI L s) {m:zae} (hm:L[m.id.toNat]?=some m.message) (h0:0<=m.id):KI L (zhw s m):=by
 unfold zhw;split
 . rename_i c
   obtain ⟨k,hk⟩:∃ k:Nat,m.id=k:=⟨m.id.toNat,by omega⟩
   rw [hk] at hm ⊢;refine ywc h fun y hy=>?_
   rw [zy38,hy] at hm;cases hm;unfold old at c;simp only [zy14,zy41] at c
   left;omega
 . exact h
theorem xhv (h:KI L s) {x:zbr} (hx:(x.life>0\/x.tries>0)->ybi L x.id.toNat) (h0:0<=x.id):KI L (zgt s x):=by
 unfold zgt;split
 . rename_i c
   obtain ⟨k,hk⟩:∃ k:Nat,x.id=k:=⟨x.id.toNat,by omega⟩
   rw [hk] at hx ⊢;refine ywc h (hx ?_);unfold yru old at c;simp only [zy14,zy74,zy41] at c;rcases c.2.2 with d | d
   . exact .inl d.1
   . exact .inr d.2.1
 . exact h
theorem ynv:∀ (q:List zae) {s:zab},KI L s->(∀ m∈q,L[m.id.toNat]?=some m.message/\0<=m.id)->KI L (q.foldl zhw s)
 | [],_,h,_=>h
 | m::q,s,h,hq=>ynv q (xhr h (hq m zz3).1 (hq m zz3).2) fun x hx=>hq x zz28
theorem yny:∀ (q:List zbr) {s:zab},KI L s->(∀ x∈q,((x.life>0\/x.tries>0)->ybi L x.id.toNat)/\0<=x.id)->KI L (q.foldl zgt s)
 | [],_,h,_=>h
 | m::q,s,h,hq=>yny q (xhv h (hq m zz3).1 (hq m zz3).2) fun x hx=>hq x zz28
theorem yfr {N:Nat} (h:KI L s) (hs:SI N s):KI L (expire s):=by
 have h1:=ynv s.queue h fun m hm=>⟨h.queue m hm,(hs.queue m hm).id0⟩
 obtain ⟨h2,-⟩:=zps s.queue s hs fun m hm=>⟨(hs.queue m hm).id0,(hs.queue m hm).id1⟩
 exact yny _ h1 fun x hx=>⟨h1.out x hx,(h2.out x hx).id0⟩
theorem KI.side {t:zab} (h:KI L s) (h1:t.fates=s.fates) (h2:∀ m∈t.queue,∃ y∈s.queue,y.id=m.id/\y.message=m.message) (h3:∀ x∈t.out,∃ y∈s.out,y.id=x.id/\y.life=x.life/\y.tries=x.tries):KI L t:=by
 refine ⟨by rw [h1];exact h.len,fun m hm=>?_,fun x hx=>?_,by rw [h1];exact h.gone⟩
 . obtain ⟨y,hy,e1,e2⟩:=h2 m hm;rw [<- e1,<- e2];exact h.queue y hy
 . obtain ⟨y,hy,e1,e2,e3⟩:=h3 x hx;rw [<- e1,<- e2,<- e3];exact h.out y hy
theorem zzt {o:List (List Chunk)} (h:KI L s):KI L (forward ⟨s,o⟩).s:=by
 unfold forward;split
 . exact h
 . exact h.side rfl (fun m hm=>⟨m,hm,rfl,rfl⟩) fun x hx=>⟨x,hx,rfl,rfl,rfl⟩
theorem xfk {p:zfs} (h:KI L p.s) (i path:Nat):KI L (fly p i path).s:=by
 unfold fly;split
 . exact h
 . rename_i x hx
   refine h.side rfl (fun m hm=>⟨m,hm,rfl,rfl⟩) fun y hy=>?_
   rcases zy45 hy with hy | rfl
   . exact ⟨y,hy,rfl,rfl,rfl⟩
   . exact ⟨x,zy5 hx,rfl,rfl,rfl⟩
theorem zve {path:Nat}:∀ (l:List Nat) {p:zfs},KI L p.s->KI L (l.foldl (zct path) p).s
 | [],_,h=>h
 | i::l,p,h=>by
  refine zve l ?_;unfold zct;split
  . exact h
  . split
    . exact xfk h _ _
    . exact h
theorem xmb (h:KI L s) {k:Nat} {m:zae} (hm:s.queue[k]?=some m):KI L (zrj s k m):=by
 have hmq:=zy5 hm;refine ⟨h.len,fun y hy=>?_,fun x hx=>?_,h.gone⟩
 . have hy:y∈(if decide (m.sent+many s m=m.message.data.length) then s.queue.eraseIdx k else s.queue.set k {m with mid:=zbt s m,sent:=m.sent+many s m,parts:=W (m.parts+1)}):=hy
   split at hy
   . exact h.queue y (zy65 hy)
   . rcases zy45 hy with hy | rfl
     . exact h.queue y hy
     . exact h.queue m hmq
 . have hx:x∈s.out++[_]:=hx
   rcases zy10.1 hx with hx | hx
   . exact h.out x hx
   . rw [zy7] at hx;subst hx
     intro hh y hy;rw [show L[m.id.toNat]?=some m.message from h.queue m hmq] at hy;cases hy;have hh:m.message.life>0\/m.message.tries>0:=hh;omega
theorem yxv {p q:zfs} (h:KI L p.s) (hq:next p=some q):KI L q.s:=by
 obtain ⟨s,o⟩:=p;unfold next at hq;dsimp only at hq h;split at hq
 . cases hq
 cases hm:s.queue[(zdh s).toNat]? with
 | none=>rw [hm] at hq;cases hq
 | some m =>
  rw [hm] at hq;dsimp only at hq;split at hq
  . cases hq
  . cases hq
    rw [zjd];exact xfk (p:=⟨zrj s (zdh s).toNat m,o⟩) (xmb h hm) _ _
theorem ypo:∀ (n:Nat) {p:zfs},KI L p.s->KI L (zga n p).s
 | 0,_,h=>h
 | n+1,p,h=>by
  unfold zga;split
  . exact h
  . rename_i q hq;exact ypo n (yxv h hq)
theorem xju {N:Nat} (h:KI L s) (hs:SI N s):KI L (zfc s).1:=by
 have h1:KI L (zho s).s:=ypo 61 (zve _ (zzt (yfr h hs)));exact h1.side rfl (fun m hm=>⟨m,hm,rfl,rfl⟩) fun x hx=>⟨x,hx,rfl,rfl,rfl⟩
theorem xke {N:Nat} (h:KI L s) (hs:SI N s) (m:Message):KI (L++[m]) (zgb s m):=by
 have hl:=h.len;have up:∀ {k:Nat},k<L.length->ybi L k->ybi (L++[m]) k:=fun hk hh y hy=>by
  rw [zy26 hk] at hy;exact hh y hy
 refine ⟨by show (s.fates++[1]).length=_;simp;omega,fun q hq=>?_,fun x hx=>?_,fun k hk=>?_⟩
 . have hq:q∈s.queue++[_]:=hq
   rcases zy10.1 hq with hq | hq
   . have:=h.queue q hq
     rw [zy26 (zy11.1 this).1];exact this
   . rw [zy7] at hq;subst hq
     show (L++[m])[((s.fates.length:Nat):Int).toNat]?=some m;rw [zy38,hl,zy42 (zy19 _),zy91];rfl
 . intro hh y hy
   have hx:x∈s.out:=hx;have h1:=h.out x hx hh;have h2:=(hs.out x hx).id1;have h3:=(hs.out x hx).id0;exact up zz0 h1 y hy
 . have hk:(s.fates++[1])[k]?=some 3:=hk
   rcases zy71 k s.fates.length with hk2 | hk2
   . rw [zy26 hk2] at hk;exact up zz0 (h.gone k hk)
   . rw [zy42 hk2] at hk
     rcases zy108 (k-s.fates.length) with e | e
     . rw [e] at hk;cases hk
     . rw [zy52 (by simp;omega)] at hk;cases hk
theorem xcy (h:KI L s) (part:Int) (i:Nat):KI L (zdy part s i):=by
 unfold zdy;split
 . exact h
 split
 . exact h
 have h2:∀ f,KI L {s with out:=s.out.map (Sco.late i),paths:=f}:=fun f=>h.side rfl (fun m hm=>⟨m,hm,rfl,rfl⟩) fun x hx=>by
  obtain ⟨y,hy,rfl⟩:=zy23.1 (show x∈s.out.map (Sco.late i) from hx);exact ⟨y,hy,by unfold Sco.late;split<;>rfl,by unfold Sco.late;split<;>rfl,by unfold Sco.late;split<;>rfl⟩
 dsimp only;split
 . exact (h2 []).side rfl (fun m hm=>⟨m,hm,rfl,rfl⟩) fun x hx=>⟨x,hx,rfl,rfl,rfl⟩
 . exact h2 _
theorem ypi (part:Int):∀ (l:List Nat) {s:zab},KI L s->KI L (l.foldl (zdy part) s)
 | [],_,h=>h
 | i::l,_,h=>ypi part l (xcy h part i)
theorem xkn (h:KI L s):KI L (tick s):=ypi _ _ (h.side rfl (fun m hm=>⟨m,hm,rfl,rfl⟩) fun x hx=>⟨x,hx,rfl,rfl,rfl⟩)
end
theorem ynn (s:zab) (id:Nat):(zcd s id).config=s.config:=(ziw s id).1.config
theorem yfp:∀ (q:List zae) (s:zab),(∀ m∈q,0<=m.id)->(q.foldl zhw s).config=s.config
 | [],_,_=>rfl
 | m::q,s,h=>by
  rw [zy35,yfp q _ fun x hx=>h x (by simp [hx])];unfold zhw;split
  . have:=h m zz3
    rw [show m.id=((m.id.toNat:Nat):Int) by omega];exact ynn s _
  . rfl
theorem yfq:∀ (q:List zbr) (s:zab),(∀ m∈q,0<=m.id)->(q.foldl zgt s).config=s.config
 | [],_,_=>rfl
 | m::q,s,h=>by
  rw [zy35,yfq q _ fun x hx=>h x (by simp [hx])];unfold zgt;split
  . have:=h m zz3
    rw [show m.id=((m.id.toNat:Nat):Int) by omega];exact ynn s _
  . rfl
theorem yrv {N:Nat} {s:zab} (h:SI N s):(expire s).config=s.config:=by
 obtain ⟨h2,-⟩:=zps s.queue s h fun m hm=>⟨(h.queue m hm).id0,(h.queue m hm).id1⟩
 unfold expire;rw [yfq _ _ fun x hx=>(h2.out x hx).id0,yfp _ _ fun m hm=>(h.queue m hm).id0]
theorem yvv (p:zfs) (i c:Nat):(fly p i c).s.config=p.s.config:=by unfold fly;split<;>rfl
theorem zzd {c:Nat}:∀ (l:List Nat) (p:zfs),(l.foldl (zct c) p).s.config=p.s.config
 | [],_=>rfl
 | i::l,p=>by
  rw [zy35,zzd l];unfold zct;split
  . rfl
  . split
    . exact yvv _ _ _
    . rfl
theorem xde {p q:zfs} (h:next p=some q):q.s.config=p.s.config:=by
 obtain ⟨s,o⟩:=p;unfold next at h;dsimp only at h;split at h
 . cases h
 cases hm:s.queue[(zdh s).toNat]? with
 | none=>rw [hm] at h;cases h
 | some m =>
  rw [hm] at h;dsimp only at h;split at h
  . cases h
  . cases h
    rw [zjd,yvv];rfl
theorem yhl:∀ (n:Nat) (p:zfs),(zga n p).s.config=p.s.config
 | 0,_=>rfl
 | n+1,p=>by
  unfold zga;split
  . rfl
  . rename_i q hq;rw [yhl n q,xde hq]
theorem ykq (p:zfs):(forward p).s.config=p.s.config:=by unfold forward;split<;>rfl
theorem xeb {N:Nat} {s:zab} (h:SI N s):(zfc s).1.config=s.config:=by
 show (zho s).s.config=_;unfold zho;rw [yhl];unfold again;rw [zzd,ykq];exact yrv h
theorem xcd (s:zab) (c:Chunk):(zjo s c).config=s.config:=by
 unfold zjo;split
 . rfl
 split
 . rfl
 rw [zil];show (zej _ _).config=_;have h2:∀ b u,(zej b u).config=u.config:=fun b u=>by unfold zej;split<;>rfl
 have h3:∀ p t L,(zge p t L).config=t.config:=fun p t L=>by
  unfold zge;split
  . rfl
  . split<;>rfl
 rw [h2,h3];rfl
end Snd
namespace Jn
open Srt
def zji (n:Nat):Nat->List zav->Option (List UInt8)
 | _,[]=>some []
 | i,p::r=>if p.chunk.part=(i:Int)/\p.chunk.last=decide (i+1=n) then (zji n (i+1) r).map (p.chunk.data++·) else none
def join (l:List zav):Option (List UInt8):=if l=[] then none else zji l.length 0 (srt ck l)
def yxo (l:List zav) (k:Nat):Nat:=l.countP fun p=>decide (p.chunk.part<(k:Int))
def xmp (l:List zav) (k:Nat):Nat:=l.countP fun p=>decide ((k:Int)<=p.chunk.part)
theorem xdc (l:List zav) (k:Nat):yxo l k+xmp l k=l.length:=by
 induction l with
 | nil=>rfl
 | cons p l ih =>
  simp only [yxo,xmp,zy168,zy8] at *
  by_cases h:p.chunk.part<(k:Int)
  . have h2:¬ (k:Int)<=p.chunk.part:=by omega
    simp [h,h2];omega
  . have h2:(k:Int)<=p.chunk.part:=by omega
    simp [h,h2];omega
theorem ypl {l:List zav} {k:Nat} (h:∃ p∈l,p.chunk.part=(k:Int)):yxo l k+1<=yxo l (k+1):=by
 induction l with
 | nil=>simp at h
 | cons p l ih =>
  have mono:∀ l:List zav,l.countP (fun p=>decide (p.chunk.part<(k:Int)))<=l.countP (fun p=>decide (p.chunk.part<((k+1:Nat):Int))):=fun l=>List.countP_mono_left fun x _ hx=>by simp at hx ⊢;omega
  simp only [yxo,zy168] at ih ⊢;by_cases he:p.chunk.part=(k:Int)
  . have:=mono l
    have h2:¬ p.chunk.part<(k:Int):=by omega
    have h3:p.chunk.part<((k+1:Nat):Int):=by omega
    rw [zy0 (by simpa using h2),zy1 (zy12 h3)];omega
  . have:∃ p∈l,p.chunk.part=(k:Int):=by
     obtain ⟨q,hq,e⟩:=h;rcases zy18.1 hq with rfl | hq
     . exact absurd e he
     . exact ⟨q,hq,e⟩
    have:=ih this;by_cases h2:p.chunk.part<(k:Int)
    . have h3:p.chunk.part<((k+1:Nat):Int):=by omega
      rw [zy1 (zy12 h2),zy1 (zy12 h3)];omega
    . have h3:¬ p.chunk.part<((k+1:Nat):Int):=by omega
      rw [zy0 (by simpa using h2),zy0 (fun h=>h3 (zy39 h))];omega
theorem xfs {l:List zav} {n:Nat} (h:∀ i,i<n->∃ p∈l,p.chunk.part=(i:Int)):∀ k,k<=n->k<=yxo l k
 | 0,_=>zy92 _
 | k+1,hk=>by have:=xfs h k zz0;have:=ypl (h k zz0);omega
theorem xft {l:List zav} {n:Nat} (hn:l.length=n) (h:∀ i,i<n->∃ p∈l,p.chunk.part=(i:Int)):∀ j,j<=n->yxo l (n-j)<=n-j
 | 0,_=>by have:=xdc l n;simp only [Nat.sub_zero];omega
 | j+1,hj=>by
  have h1:=xft hn h j zz0;have h2:=ypl (h (n-(j+1)) zz0);rw [show n-(j+1)+1=n-j by omega] at h2;omega
theorem ydv:∀ {S:List zav} (_:Sd ck S) (k:Nat) (i:Nat) (hi:i<S.length),(S[i].chunk.part<(k:Int)↔i<yxo S k)
 | x::S,h,k,0,hi=>by
  simp only [yxo,zy168,List.getElem_cons_zero];by_cases hx:x.chunk.part<(k:Int)
  . simp [hx]
  . have:S.countP (fun p=>decide (p.chunk.part<(k:Int)))=0:=List.countP_eq_zero.2 fun y hy=>by have:=h.1 y hy;simp;simp only [ck] at this;omega
    simp [hx,this]
 | x::S,h,k,i+1,hi=>by
  have ih:=ydv h.2 k i (by simpa using hi);simp only [yxo,zy168,zy165] at *
  by_cases hx:x.chunk.part<(k:Int)
  . simp [hx];exact ih
  . have:S.countP (fun p=>decide (p.chunk.part<(k:Int)))=0:=List.countP_eq_zero.2 fun y hy=>by have:=h.1 y hy;simp;simp only [ck] at this;omega
    rw [this] at ih ⊢;simp [hx];omega
theorem yjz {S:List zav} (hs:Sd ck S) (h:∀ i,i<S.length->∃ p∈S,p.chunk.part=(i:Int)) (i:Nat) (hi:i<S.length):S[i].chunk.part=(i:Int):=by
 have e:∀ k,k<=S.length->yxo S k=k:=fun k hk=>by
  have h1:=xfs h k hk;have h2:=xft rfl h (S.length-k) zz0;rw [show S.length-(S.length-k)=k by omega] at h2;omega
 have h1:=ydv hs i i hi;have h2:=ydv hs (i+1) i hi;rw [e i (by omega)] at h1;rw [e (i+1) (by omega)] at h2;omega
def xez (i:Nat):List zav->Prop
 | []=>True
 | p::r=>p.chunk.part=(i:Int)/\xez (i+1) r
theorem znm {n:Nat}:∀ {S:List zav} {i:Nat} {b:List UInt8},zji n i S=some b->xez i S
 | [],_,_,_=>trivial
 | p::r,i,b,h=>by
  rw [zji] at h;split at h
  . rename_i c
    obtain ⟨d,hd,-⟩:=zy32.1 h;exact ⟨c.1,znm hd⟩
  . cases h
def tot (l:List zav):Nat:=(l.map fun p=>p.chunk.data.length).sum
theorem yra {l l':List zav} (h:l.Perm l'):tot l=tot l':=(h.map _).sum_nat
theorem zfl (p:zav) (l:List zav):tot (p::l)=p.chunk.data.length+tot l:=rfl
theorem zyh (a b:List zav):tot (a++b)=tot a+tot b:=by simp [tot]
theorem xks {l:List zav} {p:zav} (h:p∈l):p.chunk.data.length<=tot l:=by
 induction l with
 | nil=>cases h
 | cons q l ih =>
  rw [zfl];rcases zy18.1 h with rfl | h
  . omega
  . have:=ih h;omega
def cat (l:List zav):List UInt8:=(l.map fun p=>p.chunk.data).flatten
theorem ynd (l:List zav) (p:zav):cat (l++[p])=cat l++p.chunk.data:=by simp [cat]
theorem xhf (l:List zav):(cat l).length=tot l:=by induction l with
 | nil=>rfl
 | cons p l ih=>rw [zfl,<- ih];simp [cat]
abbrev pieces (l:List zav):HV:=.p (.sl 12 (l.map zav.row))
theorem yax (n:Int):zao Tryz.prog 214 [i64 n] zaf (zbm false) zaf:=by
 refine zap mixed Tryz.func214 zz5 ?_;(conv=>whnf);simp
theorem yiz (a b:Int):zao Tryz.prog 209 [i64 a,i64 b] zaf (i64 (if a<b then -1 else if a>b then 1 else 0)) zaf:=by
 refine zap mixed Tryz.func209 zz5 ?_;(conv=>whnf)
 (refine cL ?_;refine dL (yax a) ?_)
 (refine cL ?_;refine dL (yax b) ?_)
 by_cases c:a<b
 . rw [zy1 c]
   ((refine xmo ?_;conv=>whnf);try refine sG ?_)
 rw [zy0 c];refine sN ?_;by_cases c2:a>b
 . rw [zy1 c2]
   ((refine xmo ?_;conv=>whnf);try refine sG ?_)
 rw [zy0 c2]
 ((refine xqc ?_;conv=>whnf);try refine sG ?_)
theorem yeb:yeq 208:=fun a b=>by
 refine zap mixed Tryz.func208 zz5 ?_;(conv=>whnf)
 (refine cL ?_;refine dL (yiz a.chunk.part b.chunk.part) ?_)
 rfl
theorem xao {x:HV} {a b:Bool} (h:a=b):HV.tup [x,zbm a]=HV.tup [x,zbm b]:=by rw [h]
theorem yfc (l:List zav) (hb:l.length<2 ^ 39):zao Tryz.prog 206 [.p (.sl 12 (l.map zav.row))] zaf (.own 0) (lk .free [(0,.live (.row 162 12 (l.map zav.row)))]):=by
 refine zan mixed Tryz.func206 zz5 [] (fun _=>.inl rfl) ?_;(conv=>whnf);intro b hn;(conv=>whnf);refine zag (fun c=>?_) (fun c=>?_)
 . conv=>whnf
   exact yy14
 . conv=>whnf
   refine zaa (c:=(([]:List (List PV)).length+(l.map zav.row).length)*136<=140737488355328) zz4 ?_;exact yy9
theorem yzv (l:List zav) (hb:l.length<2 ^ 38) (ht:tot l<2 ^ 40) :
 zao Tryz.prog 200 [pieces l] zaf (.tup [.own 0,zbm (join l).isSome]) (lk .free [(0,.live (.row 5 1 (((join l).getD []).map zef)))]):=by
 refine zan mixed Tryz.func200 zz5 [] (fun _=>.inl rfl) ?_;(conv=>whnf)
 (refine zat [(0,9)] ?_;(conv=>whnf);refine dO (yfc l zz0) ?_)
 (refine zac [] [(1000,9)] [] ?_;(conv=>whnf);refine dG (xae yeb l zz0) ?_)
 have hl:=zhq (key:=ck) l;have ht2:tot (srt ck l)<2 ^ 40:=by rw [yra zlv];exact ht
 obtain ⟨S,hS⟩:∃ S,S=srt ck l:=⟨_,rfl⟩
 have hj:join l=if l=[] then none else zji S.length 0 S:=by rw [join,<- hS,<- hl,hS]
 rw [<- hS] at hl ht2;refine ⟨{x:List zav×List zav // S=x.1++x.2/\zji S.length 0 S=(zji S.length x.1.length x.2).map (cat x.1++·)},fun | ⟨(A,B),_⟩=>hs 45 [(4,.own 900),(5,.own 901),(12,.own 900),(13,i64 S.length),(14,i64 A.length)] [(900,.live (.row 162 12 (S.map zav.row))),(901,.live (.row 5 1 ((cat A).map zef)))],fun x=>x.1.2.length,⟨([],S),rfl,by simp [cat]⟩,?_,?_⟩
 . exact (zcy [(900,some 9),(901,none)] (by repeat' (first | exact z0 | refine z1 ?_ | refine ⟨?_,?_⟩ | ((exact zbl (by rw [zy3,hS]))) | ((exact zar (by rw [hS]))) | exact z2)))
 rintro ⟨⟨A,B⟩,h,hr⟩;dsimp only at h hr;have hAB:S.length=A.length+B.length:=by rw [h];simp
 have htA:tot S=tot A+tot B:=by rw [h,zyh]
 (conv=>whnf);cases B with
 | nil =>
  rw [zy16] at hAB;rw [zji] at hr;have hcat:zji S.length 0 S=some (cat A):=by rw [hr];simp
  have h0:tot []=0:=rfl;refine sN ?_;by_cases hln:l=[]
  . subst hln
    have hl0:S.length=0:=hl;have:A=[]:=zy22 zz0;subst this;refine zam [(0,some 901)] rfl rfl trivial rfl (xao ?_) ⟨⟨rfl,.inl ⟨901,rfl,rfl⟩⟩,trivial⟩;rw [zy3,hl0];rfl
  . have:=zy30.2 hln
    have hjv:join l=some (cat A):=by rw [hj,zy0 hln,hcat]
    rw [hjv];refine zam [(0,some 901)] rfl rfl trivial rfl (xao ?_) ⟨⟨rfl,.inl ⟨901,rfl,rfl⟩⟩,trivial⟩;simp;omega
 | cons p B =>
  rw [zy8] at hAB;rw [zfl] at htA;rw [zji] at hr;have hca:=xhf A;have hln:l≠[]:=fun h=>by subst h;have hl0:S.length=0:=hl;omega
  rw [zy0 hln] at hj;refine sT ?_;refine sO ?_;refine zal h zz3 (zw ?_);have e:((A.length:Int)==((S.map zav.row).length:Int)-1)=decide (A.length+1=S.length):=by
   rw [zy3,zy152];simp;omega
  by_cases c1:p.chunk.part=(A.length:Int)
  . refine zah (by simp [c1]) (zw ?_)
    refine sF ?_;by_cases c2:p.chunk.last=decide (A.length+1=S.length)
    . rw [zy1 ⟨c1,c2⟩] at hr
      refine zah (by rw [e,c2];simp) (zw ?_)
      try refine sG ?_
      refine zaa (c:=(((cat A).map zef).length+(p.chunk.data.map zef).length)*1<=140737488355328) zz4 (zw ?_)
      try refine sG ?_
      refine sF ?_;refine ⟨⟨(A++[p],B),by rw [h];simp,by dsimp only;rw [hr,Option.map_map,zy4,zy48];congr 1;funext x;simp [ynd]⟩,(zcy [(900,some 900),(901,some 39)] (by repeat' (first | exact z0 | refine z1 ?_ | refine ⟨?_,?_⟩ | ((exact zar (by rw [ynd];simp))) | exact z2))),by simp⟩
    . rw [zy0 fun h=>c2 h.2] at hr
      have hjv:join l=none:=by rw [hj,hr];rfl
      refine zai (by rw [e];cases hp:p.chunk.last<;>cases hd:decide (A.length+1=S.length)<;>simp_all) (zw ?_);exact yy96
  . rw [zy0 fun h=>c1 h.1] at hr
    have hjv:join l=none:=by rw [hj,hr];rfl
    refine zai zz52 ?_;conv=>whnf
    exact yy96
end Jn
end Go.HL
namespace Go.HL
namespace Ser
def zfu:List Span->Prop
 | []=>True
 | s::r=>s.lo<=s.hi/\-9223372036854775808<=s.lo/\s.hi<=9223372036854775807/\(∀ t∈r,s.hi+1<t.lo)/\zfu r
theorem zlo:∀ {a b:List Span},zfu (a++b)↔zfu a/\zfu b/\∀ s∈a,∀ t∈b,s.hi+1<t.lo
 | [],b=>by simp [zfu]
 | s::a,b=>by
  simp only [zy43,zfu,zlo (a:=a) (b:=b),zy10,zy18]
  constructor
  . rintro ⟨h1,h2,h3,h4,h5,h6,h7⟩
    exact ⟨⟨h1,h2,h3,fun t ht=>h4 t (.inl ht),h5⟩,h6,fun x hx t ht=>by rcases hx with rfl | hx;exact h4 t (.inr ht);exact h7 x hx t ht⟩
  . rintro ⟨⟨h1,h2,h3,h4,h5⟩,h6,h7⟩
    exact ⟨h1,h2,h3,fun t ht=>by rcases ht with ht | ht;exact h4 t ht;exact h7 s (.inl rfl) t ht,h5,h6,fun x hx t ht=>h7 x (.inr hx) t ht⟩
theorem zjv:∀ {l:List Span},zfu l->∀ s∈l,s.lo<=s.hi/\-9223372036854775808<=s.lo/\s.hi<=9223372036854775807
 | s::r,h,t,ht=>by
  rcases zy18.1 ht with rfl | ht
  . exact ⟨h.1,h.2.1,h.2.2.1⟩
  . exact zjv h.2.2.2.2 t ht
theorem zmm {l:List Span} {n:Int}:has l n=true↔∃ s∈l,s.lo<=n/\n<=s.hi:=by
 simp [has,zy107]
theorem ywh {l:List Span} {n:Int}:has l n=false↔∀ s∈l,¬ (s.lo<=n/\n<=s.hi):=by
 rw [<- zy167,zmm];simp
theorem yco (a b:List Span) (n:Int):has (a++b) n=(has a n||has b n):=by simp [has]
theorem zlj (s:Span) (b:List Span) (n:Int):has (s::b) n=((decide (s.lo<=n)&&decide (n<=s.hi))||has b n):=by simp [has]
def yso (n:Int) (s:Span):Bool:=decide (s.hi<n)
def below (l:List Span) (n:Int):List Span:=l.takeWhile (yso n)
def zew (l:List Span) (n:Int):List Span:=l.dropWhile (yso n)
def zzl (n:Int) (a:List Span):List Span×Int:=match a.getLast? with
 | some s=>if s.hi=n-1 then (a.dropLast,s.lo) else (a,n)
 | none=>(a,n)
def zuh (n:Int):List Span->Int×List Span
 | t::r=>if t.lo=n+1 then (t.hi,r) else (n,t::r)
 | []=>(n,[])
def add (l:List Span) (n:Int):List Span :=
 if has l n then l else (zzl n (below l n)).1++⟨(zzl n (below l n)).2,(zuh n (zew l n)).1⟩::(zuh n (zew l n)).2
theorem split (l:List Span) (n:Int):l=below l n++zew l n:=(List.takeWhile_append_dropWhile).symm
theorem zug {l:List Span} {n:Int}:∀ s∈below l n,s.hi<n:=fun s hs=>by
 have:=zy60.1 (List.all_takeWhile (p:=yso n) (l:=l)) s hs
 simpa [yso] using this
theorem ymu {l:List Span} {n:Int} (h:zfu l) (hn:has l n=false):∀ s∈zew l n,n<s.lo:=by
 intro s hs;have hsp:=split l n;have hr:zfu (zew l n):=by rw [hsp] at h;exact (zlo.1 h).2.1
 have hno:∀ t∈zew l n,¬ (t.lo<=n/\n<=t.hi):=fun t ht=>ywh.1 hn t (by rw [hsp];exact zy144 _ ht)
 have hhd:∀ t r,zew l n=t::r->¬ t.hi<n:=by
  intro t r e hlt;have:=zy154 (yso n) l;rw [show l.dropWhile (yso n)=t::r from e] at this;simp [yso] at this;omega
 cases ha:zew l n with
 | nil=>rw [ha] at hs;simp at hs
 | cons t r =>
  have h1:=hhd t r ha;have h2:=hno t (by rw [ha];simp);rw [ha] at hr hs;have h3:=hr.1;rcases zy18.1 hs with rfl | hs
  . omega
  . have:=hr.2.2.2.1 s hs;omega
theorem yuv {l:List Span} {n:Int} (h:zfu l):∀ (i:Nat) (hi:i<l.length),l[i].hi<n↔i<(below l n).length:=by
 intro i hi;have hsp:=split l n
 constructor
 . intro hlt
   apply Classical.byContradiction;intro hge;have hmem:l[i]∈zew l n:=by
    have e:l[i]?=(zew l n)[i-(below l n).length]?:=by
     conv=>lhs;rw [hsp]
     exact zy42 zz0
    rw [zy2 hi] at e;exact zy5 e.symm
   have hr:zfu (zew l n):=by rw [hsp] at h;exact (zlo.1 h).2.1
   cases ha:zew l n with
   | nil=>rw [ha] at hmem;simp at hmem
   | cons t r =>
    have h1:¬ t.hi<n:=by
     exact yy100
    rw [ha] at hr hmem;rcases zy18.1 hmem with e | hm
    . rw [e] at hlt;exact h1 hlt
    . have h4:=hr.2.2.2.1 _ hm
      have h5:=(zjv hr.2.2.2.2 _ hm).1;have:=hr.1;omega
 . intro hlt
   have e:l[i]?=(below l n)[i]?:=by
    conv=>lhs;rw [hsp]
    exact zy26 hlt
   rw [zy2 hi] at e;exact zug _ (zy5 e.symm)
theorem yuz {a:List Span} {n:Int} (h:zfu a) (hn:∀ s∈a,s.hi<n) :
 (zzl n a).2<=n/\(∀ s∈(zzl n a).1,s.hi+1<(zzl n a).2)/\zfu (zzl n a).1/\(-9223372036854775808<=n->-9223372036854775808<=(zzl n a).2)/\∀ m,(has (zzl n a).1 m||(decide ((zzl n a).2<=m)&&decide (m<n)))=has a m:=by
 rcases zy143 a with rfl | ⟨a',s,rfl⟩
 . simp [zzl,zfu,has]
   intro m hm;exact zy39 hm
 . rw [zy123] at h hn ⊢
   have hs:=hn s zz3;have hr:=zlo.1 h;have h3:∀ x∈a',x.hi+1<s.lo:=fun x hx=>hr.2.2 x hx s zz3
   have h4:=hr.2.1.1;simp only [zzl,List.getLast?_concat];split
   . rename_i he
     simp only [List.dropLast_concat];refine ⟨by omega,h3,hr.1,fun _=>hr.2.1.2.1,fun m=>?_⟩;rw [yco,zlj];have:decide (m<n)=decide (m<=s.hi):=by rw [zy128];omega
     rw [this];simp [has]
   . rename_i he
     refine ⟨zy80 _,fun x hx=>?_,h,fun h=>h,fun m=>?_⟩
     . rcases zy10.1 hx with hx | hx
       . have:=h3 x hx;dsimp only;omega
       . rw [zy7.1 hx];dsimp only;omega
     . have:(decide (n<=m)&&decide (m<n))=false:=by simp<;>omega
       dsimp only;rw [this,Bool.or_false]
theorem yvb {b:List Span} {n:Int} (h:zfu b) (hn:∀ s∈b,n<s.lo) :
 n<=(zuh n b).1/\(∀ s∈(zuh n b).2,(zuh n b).1+1<s.lo)/\zfu (zuh n b).2/\(n<=9223372036854775807->(zuh n b).1<=9223372036854775807)/\∀ m,(has (zuh n b).2 m||(decide (n<m)&&decide (m<=(zuh n b).1)))=has b m:=by
 cases b with
 | nil =>
  simp [zuh,zfu,has];intro m hm;exact zy20 zz0
 | cons t r =>
  have ht:=hn t zz3;simp only [zuh];split
  . rename_i he
    refine ⟨by have:=h.1;dsimp only;omega,h.2.2.2.1,h.2.2.2.2,fun _=>h.2.2.1,fun m=>?_⟩;rw [zlj,Bool.or_comm];congr 2;rw [zy128];omega
  . rename_i he
    refine ⟨zy80 _,fun x hx=>?_,h,fun h=>h,fun m=>?_⟩
    . rcases zy18.1 hx with rfl | hx
      . dsimp only;omega
      . have:=h.2.2.2.1 x hx;have:=h.1;dsimp only;omega
    . have:(decide (n<m)&&decide (m<=n))=false:=by simp
      dsimp only;rw [this,Bool.or_false]
theorem ybm {l:List Span} {n:Int} (h:zfu l) (h1:-9223372036854775808<=n) (h2:n<=9223372036854775807):zfu (add l n)/\∀ m,has (add l n) m=(has l m||decide (m=n)):=by
 unfold add;cases hn:has l n with
 | true =>
  refine ⟨h,fun m=>?_⟩;by_cases hm:m=n
  . subst hm;simp [hn]
  . simp [hm]
 | false =>
  simp only [zy86,if_false];have hsp:=split l n;have hab:=h;rw [hsp] at hab;obtain ⟨ra,rb,rab⟩:=zlo.1 hab;obtain ⟨a1,a2,a3,a4,a5⟩:=yuz ra zug;obtain ⟨b1,b2,b3,b4,b5⟩:=yvb rb (ymu h hn);have a4:=a4 h1;have b4:=b4 h2;have b6:∀ s∈(zuh n (zew l n)).2,n<s.lo:=fun s hs=>by have:=b2 s hs;omega
  refine ⟨zlo.2 ⟨a3,⟨by dsimp only;omega,a4,b4,b2,b3⟩,fun s hs t ht=>?_⟩,fun m=>?_⟩
  . rcases zy18.1 ht with rfl | ht
    . exact a2 s hs
    . have:=a2 s hs;have:=b6 t ht;omega
  . have e:has l m=(has (below l n) m||has (zew l n) m):=by rw [<- yco,<- hsp]
    rw [yco,zlj,e,<- a5 m,<- b5 m];generalize has (zzl n (below l n)).1 m=A;generalize has (zuh n (zew l n)).2 m=B;dsimp only;rcases Int.lt_trichotomy m n with hlt | rfl | hgt
    . have e1:decide (m<n)=true:=by simpa using hlt
      have e2:decide (n<m)=false:=by simp;omega
      have e3:decide (m=n)=false:=by simp;omega
      have e4:decide (m<=(zuh n (zew l n)).1)=true:=by simp;omega
      rw [e1,e2,e3,e4];simp [Bool.or_assoc,Bool.or_comm,Bool.or_left_comm]
    . have e4:decide (m<=(zuh m (zew l m)).1)=true:=by simp;omega
      have e5:decide ((zzl m (below l m)).2<=m)=true:=by simp;omega
      rw [e4,e5];simp
    . have e1:decide (m<n)=false:=by simp;omega
      have e2:decide (n<m)=true:=by simpa using hgt
      have e3:decide (m=n)=false:=by simp;omega
      have e4:decide ((zzl n (below l n)).2<=m)=true:=by simp;omega
      rw [e1,e2,e3,e4];simp [Bool.or_assoc,Bool.or_comm,Bool.or_left_comm]
end Ser
namespace Ser
def cmp (n:Int) (s:Span):Int:=if s.hi<n then -1 else if s.lo>n then 1 else 0
theorem yeb (n:Int) (s:Span):zao Tryz.prog 196 [s.hv,i64 n] zaf (i64 (cmp n s)) zaf:=by
 refine zap mixed Tryz.func196 zz5 ?_;(conv=>whnf);refine zag (fun c=>?_) (fun c=>?_)
 . have c:s.hi<n:=by simpa using c
   (conv=>whnf);rw [cmp,zy1 c]
 . have c:¬ s.hi<n:=by simpa using c
   (conv=>whnf);refine zag (fun c2=>?_) (fun c2=>?_)
   . have c2:s.lo>n:=by simpa using c2
     (conv=>whnf);rw [cmp,zy0 c,zy1 c2]
   . have c2:¬ s.lo>n:=by simpa using c2
     (conv=>whnf);rw [cmp,zy0 c,zy0 c2]
theorem xlz {n:Int} {s:Span}:cmp n s<0↔s.hi<n:=by
 unfold cmp;split
 . simp [*]
 . split<;>simp [*]
theorem found {l:List Span} {n:Int} (h:zfu l):zvm (cmp n) l (below l n).length=has l n:=by
 have hsp:=split l n;have e:l[(below l n).length]?=(zew l n)[0]?:=by
  conv=>lhs;arg 1;rw [hsp]
  rw [zy42 (zy19 _),zy91]
 have e2:has l n=has (zew l n) n:=by
  conv=>lhs;arg 1;rw [hsp]
  rw [yco,ywh.2 fun s hs=>by have:=zug s hs;omega,Bool.false_or]
 rw [zvm,e,e2];cases ha:zew l n with
 | nil=>rfl
 | cons t r =>
  have hr:zfu (zew l n):=by rw [hsp] at h;exact (zlo.1 h).2.1
  rw [ha] at hr;have h1:¬ t.hi<n:=by
   exact yy100
  have h2:has r n=false:=ywh.2 fun s hs=>by have:=hr.2.2.2.1 s hs;omega
  rw [zlj,h2,Bool.or_false];show (cmp n t==0)=_;rw [cmp,zy0 h1];by_cases c:t.lo>n
  . rw [zy1 c,zy20 (by omega)];rfl
  . rw [zy0 c,zy12 (by omega),zy12 (by omega)];rfl
theorem zft (l:List Span) (hb:l.length<2 ^ 40):zao Tryz.prog 150 [.p (.sl 2 (l.map Span.row))] zaf (.own 0) (lk .free [(0,.live (.row 199 2 (l.map Span.row)))]):=by
 refine zan mixed Tryz.func150 zz5 [] (fun _=>.inl rfl) ?_;(conv=>whnf);intro b hn;(conv=>whnf);refine zag (fun c=>?_) (fun c=>?_)
 . conv=>whnf
   exact yy14
 . conv=>whnf
   refine zaa (c:=(([]:List (List PV)).length+(l.map Span.row).length)*16<=140737488355328) zz4 ?_;exact yy9
theorem zhn {α:Type} (l:List α):l=[]\/∃ a x,l=a++[x]:=by
 rcases zy143 l with h | ⟨a,x,h⟩
 . exact .inl h
 . exact .inr ⟨a,x,by rw [h,zy123]⟩
theorem zkk (n:Int) (a:List Span) (s:Span):zzl n (a++[s])=if s.hi=n-1 then (a,s.lo) else (a++[s],n):=by
 simp [zzl]
theorem ydt {α:Type} {t n:Nat} {f:α->List PV} {a b:List α} {x y:α} {k:Nat} {r:List PV} (hk:k=a.length) (hr:f y=r) :
 zad.live (.row t n (((a++[x]++b).map f).set k r))=zad.live (.row t n ((a++[y]++b).map f)):=by
 rw [zy24,zy24];exact (zfi hk hr).symm
theorem yar {α:Type} {t n:Nat} {f:α->List PV} {a b:List α} (h:a=b):zad.live (.row t n (a.map f))=zad.live (.row t n (b.map f)):=by rw [h]
theorem yzp (A B:List Span) (n:Int) (hl:zfu (A++B)) (hA:below (A++B) n=A) (hB:zew (A++B) n=B) (hb:(A++B).length<2 ^ 39) (h1:-9223372036854775808<=n) (h2:n<=9223372036854775807) :
 zao Tryz.prog 181 [zaq (A++B),i64 n] zaf (.own 0) (lk .free [(0,.live (.row 199 2 ((add (A++B) n).map Span.row)))]):=by
 refine zan mixed Tryz.func181 zz5 [] (fun _=>.inl rfl) ?_;have hlen:(A++B).length=A.length+B.length:=zy4;have hf:=found (n:=n) hl;rw [hA] at hf;(conv=>whnf)
 (refine zat [(0,9)]  ?_;(conv=>whnf);refine dO (zft (A++B) zz0) ?_)
 (refine cZ ?_;refine dL (xkj (yeb n) (A++B) A.length zz0 (fun i h=>by rw [xlz,yuv hl i h,hA]) zz0) ?_)
 rw [hf];cases hn:has (A++B) n with
 | true =>
  have ha:add (A++B) n=A++B:=by rw [add,hn];rfl
  rw [ha];(conv=>whnf);refine zam [(0,some 9)] rfl rfl trivial rfl rfl ⟨⟨rfl,.inl ⟨9,rfl,rfl⟩⟩,trivial⟩
 | false =>
  have ha:add (A++B) n=(zzl n A).1++⟨(zzl n A).2,(zuh n B).1⟩::(zuh n B).2:=by rw [add,hn,hA,hB];rfl
  rw [ha];(conv=>whnf);have hAl:A.length<2 ^ 39:=by omega
  have hlow:∀ s∈A,s.hi<n:=by have:=zug (l:=A++B) (n:=n);rwa [hA] at this
  have habv:∀ s∈B,n<s.lo:=by have:=ymu hl hn;rwa [hB] at this
  (refine zac [] [(1000,9),(1001,23)] [(0,24)] ?_;(conv=>whnf);refine dG (ylg A B ⟨n,n⟩ _ rfl zz0) ?_ ⟨rfl,rfl,rfl,⟨zz1,⟨zz1,trivial⟩⟩,⟨⟨rfl,rfl⟩,trivial⟩,rfl,rfl,rfl⟩)
  cases B with
  | nil =>
   refine zbn (z':=((A.length+1:Nat):Int)) zz25 (zw ?_);refine sN ?_;have hR:zuh n []=(n,[]):=rfl;rw [hR];rcases zhn A with rfl | ⟨A',s,rfl⟩
   . conv=>whnf
     try refine sG ?_
     exact yy37
   . have hs:s.hi<n:=hlow s zz3
     have hsl:(A'++[s]).length=A'.length+1:=by simp
     have hs2:=zjv hl s zz3;refine sT ?_;refine zbn (z':=((A'.length:Nat):Int)) zz20 (zw ?_);refine sOm ?_;refine zal (show A'++[s]++⟨n,n⟩::[]=A'++s::⟨n,n⟩::[] by simp) rfl (zw ?_);refine zau (z:=n-1) (zbg zz0 zz0) (zw ?_);by_cases he:s.hi=n-1
     . refine sT ?_
       refine zbn (z':=((A'.length:Nat):Int)) zz20 (zw ?_);refine sOm ?_;refine zal (show A'++[s]++⟨n,n⟩::[]=(A'++[s])++⟨n,n⟩::[] from rfl) rfl (zw ?_);refine sOm ?_;refine zal (show A'++[s]++⟨n,n⟩::[]=A'++s::⟨n,n⟩::[] by simp) zz3 (zw ?_);refine zbn (z':=((A'.length+2:Nat):Int)) zz45 (zw ?_);refine zac [] [(1000,24)] [(0,84)] (zw ?_);refine ⟨_,_,_,_,zjm (A'++[⟨s.lo,n⟩]) ([]) ⟨n,n⟩ _ _ zz3 zz4 zz71,⟨rfl,rfl,rfl,⟨⟨rfl,_,rfl,.inl ⟨rfl,?_⟩⟩,trivial⟩,⟨⟨rfl,rfl⟩,trivial⟩,rfl,rfl,rfl⟩,?_⟩
       . exact ydt (f:=Span.row) (a:=A') (b:=⟨n,n⟩::[]) (x:=s) (y:=⟨s.lo,n⟩) zz3 rfl
       exact yy40
     . refine sN ?_
       rw [zkk,zy0 he];exact yy37
  | cons x B =>
   have hx:=habv x zz3;have hx2:=zjv hl x zz3;have hbl:(x::B).length=B.length+1:=rfl;refine zbn (z':=((A.length+1:Nat):Int)) zz25 (zw ?_);refine sT ?_;refine zbn (z':=((A.length+1:Nat):Int)) zz25 (zw ?_);refine sOm ?_;refine zal (show A++⟨n,n⟩::x::B=(A++[⟨n,n⟩])++x::B by simp) zz3 (zw ?_);refine zau (z:=n+1) (zbg zz0 zz0) (zw ?_);by_cases hr:x.lo=n+1
   . refine sT ?_
     have hR:zuh n (x::B)=(x.hi,B):=by simp [zuh,hr]
     rw [hR];refine zbn (z':=((A.length+1:Nat):Int)) zz25 (zw ?_);refine sOm ?_;refine zal (show A++⟨n,n⟩::x::B=(A++[⟨n,n⟩])++x::B by simp) zz3 (zw ?_);refine sOm ?_;refine zal (show A++⟨n,n⟩::x::B=A++⟨n,n⟩::x::B from rfl) zz3 (zw ?_);refine zbn (z':=((A.length+1:Nat):Int)) zz25 (zw ?_);refine zbn (z':=((A.length+2:Nat):Int)) (by show W ((A.length:Int)+2)=_;rw [zbg (by omega) (by omega)];push_cast;rfl) (zw ?_);refine zac [] [(1000,24)] [(0,56)] (zw ?_);refine ⟨_,_,_,_,ykl (out:=A++⟨n,x.hi⟩::B) (A++[⟨n,x.hi⟩]) B x _ _ rfl zz3 zz3 zz4 zz71,⟨rfl,rfl,rfl,⟨⟨rfl,_,rfl,.inl ⟨rfl,?_⟩⟩,trivial⟩,⟨⟨rfl,rfl⟩,trivial⟩,rfl,rfl,rfl⟩,?_⟩
     . refine (zfi (f:=Span.row) (a:=A) (b:=x::B) (x:=⟨n,n⟩) (y:=⟨n,x.hi⟩) zz3 rfl).symm.trans (yar zz3)
     conv=>whnf
     try refine sG ?_
     rcases zhn A with rfl | ⟨A',s,rfl⟩
     . conv=>whnf
       try refine sG ?_
       refine zam [(0,some 56)] rfl rfl trivial rfl rfl ⟨⟨rfl,.inl ⟨56,rfl,rfl⟩⟩,trivial⟩
     . have hs:s.hi<n:=hlow s zz3
       have hsl:(A'++[s]).length=A'.length+1:=by simp
       have hs2:=zjv hl s zz3;refine sT ?_;refine zbn (z':=((A'.length:Nat):Int)) zz20 (zw ?_);refine sOm ?_;refine zal (show A'++[s]++⟨n,x.hi⟩::B=A'++s::⟨n,x.hi⟩::B by simp) rfl (zw ?_);refine zau (z:=n-1) (zbg zz0 zz0) (zw ?_);by_cases he:s.hi=n-1
       . refine sT ?_
         refine zbn (z':=((A'.length:Nat):Int)) zz20 (zw ?_);refine sOm ?_;refine zal (show A'++[s]++⟨n,x.hi⟩::B=(A'++[s])++⟨n,x.hi⟩::B from rfl) rfl (zw ?_);refine sOm ?_;refine zal (show A'++[s]++⟨n,x.hi⟩::B=A'++s::⟨n,x.hi⟩::B by simp) zz3 (zw ?_);refine zbn (z':=((A'.length+2:Nat):Int)) zz45 (zw ?_);refine zac [] [(1000,56)] [(0,84)] (zw ?_);refine ⟨_,_,_,_,zjm (A'++[⟨s.lo,x.hi⟩]) (B) ⟨n,x.hi⟩ _ _ zz3 zz4 zz71,⟨rfl,rfl,rfl,⟨⟨rfl,_,rfl,.inl ⟨rfl,?_⟩⟩,trivial⟩,⟨⟨rfl,rfl⟩,trivial⟩,rfl,rfl,rfl⟩,?_⟩
         . exact ydt (f:=Span.row) (a:=A') (b:=⟨n,x.hi⟩::B) (x:=s) (y:=⟨s.lo,x.hi⟩) zz3 rfl
         exact yy40
       . refine sN ?_
         rw [zkk,zy0 he];refine zam [(0,some 56)] rfl rfl trivial rfl rfl ⟨⟨rfl,.inl ⟨56,rfl,rfl⟩⟩,trivial⟩
   . refine sN ?_
     have hR:zuh n (x::B)=(n,x::B):=by simp [zuh,hr]
     rw [hR];rcases zhn A with rfl | ⟨A',s,rfl⟩
     . conv=>whnf
       try refine sG ?_
       exact yy37
     . have hs:s.hi<n:=hlow s zz3
       have hsl:(A'++[s]).length=A'.length+1:=by simp
       have hs2:=zjv hl s zz3;refine sT ?_;refine zbn (z':=((A'.length:Nat):Int)) zz20 (zw ?_);refine sOm ?_;refine zal (show A'++[s]++⟨n,n⟩::x::B=A'++s::⟨n,n⟩::x::B by simp) rfl (zw ?_);refine zau (z:=n-1) (zbg zz0 zz0) (zw ?_);by_cases he:s.hi=n-1
       . refine sT ?_
         refine zbn (z':=((A'.length:Nat):Int)) zz20 (zw ?_);refine sOm ?_;refine zal (show A'++[s]++⟨n,n⟩::x::B=(A'++[s])++⟨n,n⟩::x::B from rfl) rfl (zw ?_);refine sOm ?_;refine zal (show A'++[s]++⟨n,n⟩::x::B=A'++s::⟨n,n⟩::x::B by simp) zz3 (zw ?_);refine zbn (z':=((A'.length+2:Nat):Int)) zz45 (zw ?_);refine zac [] [(1000,24)] [(0,84)] (zw ?_);refine ⟨_,_,_,_,zjm (A'++[⟨s.lo,n⟩]) (x::B) ⟨n,n⟩ _ _ zz3 zz4 zz71,⟨rfl,rfl,rfl,⟨⟨rfl,_,rfl,.inl ⟨rfl,?_⟩⟩,trivial⟩,⟨⟨rfl,rfl⟩,trivial⟩,rfl,rfl,rfl⟩,?_⟩
         . exact ydt (f:=Span.row) (a:=A') (b:=⟨n,n⟩::x::B) (x:=s) (y:=⟨s.lo,n⟩) zz3 rfl
         exact yy40
       . refine sN ?_
         rw [zkk,zy0 he];exact yy37
end Ser
namespace Ser
theorem xek (l:List Span) (n:Int) (hl:zfu l) (hb:l.length<2 ^ 39) (h1:-9223372036854775808<=n) (h2:n<=9223372036854775807) :
 zao Tryz.prog 181 [zaq l,i64 n] zaf (.own 0) (lk .free [(0,.live (.row 199 2 ((add l n).map Span.row)))]):=by
 have hsp:=split l n;have h:=yzp (below l n) (zew l n) n (by rwa [<- hsp]) (by rw [<- hsp]) (by rw [<- hsp]) (by rwa [<- hsp]) h1 h2
 rwa [<- hsp] at h
def up:List Span->Int->Int×List Span
 | [],n=>(n,[])
 | s::r,n=>if s.lo<=n+1 then up r (if s.hi>n then s.hi else n) else (n,s::r)
def wnd:List Span->List Span->HV
 | [],_=>.own 900
 | _::a,b=>.osl 900 2 (a.length+1) b.length
theorem yox {α:Type} {f:α->List PV} {l a b c:List α} {o n:Nat} {K:List (List PV)->Prop} (h:l=a++b++c) (ho:o=a.length) (hn:n=b.length) (hk:K (b.map f)):zth (l.map f) o n K:=by
 subst h ho hn;refine ⟨_,rfl,by simp,?_⟩
 rwa [<- zy106,<- zy125,zy24,zy118,zy161]
theorem xfz {i s o o' n n':Nat} (ho:o=o') (hn:n=n'):HV.osl i s o n=.osl i s o' n':=by rw [ho,hn]
theorem xai (l:List Span) (n:Int) (hl:∀ s∈l,s.hi<=1099511627776) (hb:l.length<2 ^ 39) (h1:-1099511627776<=n) (h2:n<=1099511627776) :
 zao Tryz.prog 180 [zaq l,i64 n] zaf (.tup [i64 (up l n).1,.own 0]) (lk .free [(0,.live (.row 199 2 ((up l n).2.map Span.row)))]):=by
 refine zan mixed Tryz.func180 zz5 [] (fun _=>.inl rfl) ?_;generalize hR:up l n=R;(conv=>whnf)
 (refine zat [(0,8)]  ?_;(conv=>whnf);refine dO (zft l zz0) ?_)
 refine ⟨{x:(List Span×List Span)×Int // l=x.1.1++x.1.2/\R=up x.1.2 x.2/\-1099511627776<=x.2/\x.2<=1099511627776},fun | ⟨((a,b),m),_⟩=>hs 32 [(1,i64 m),(6,wnd a b)] [(900,.live (.row 199 2 (l.map Span.row)))],fun x=>x.1.1.2.length,⟨(([],l),n),rfl,hR.symm,h1,h2⟩,?_,?_⟩
 . exact (zem [(900,some 8)])
 rintro ⟨⟨⟨a,b⟩,m⟩,h,hu,hm1,hm2⟩;dsimp only at h hu hm1 hm2;have hlen:l.length=a.length+b.length:=by rw [h];simp
 have hlm:(l.map Span.row).length=l.length:=by simp
 cases a with
 | nil =>
  rw [zy100] at h;rw [zy16,zy58] at hlen;(conv=>whnf);cases b with
  | nil =>
   rw [zy16] at hlen;refine sN ?_
   (refine zat [(0,31)]  ?_;(conv=>whnf);refine dO (zft l zz0) ?_)
   exact yy95
  | cons s r =>
   rw [zy8] at hlen;have hs:=hl s zz68;refine sT ?_;refine zaa zz0 (zw ?_);refine zal (a:=[]) h rfl (zw ?_);refine sF ?_;by_cases c:s.lo<=m+1
   . refine sT ?_
     refine zaa zz0 (zw ?_);refine zal (a:=[]) h rfl (zw ?_);refine zaa zz0 (zw ?_);refine ⟨⟨(([s],r),if s.hi>m then s.hi else m),h,by dsimp only;rw [hu,up,zy1 c],by dsimp only;split<;>omega,by dsimp only;split<;>omega⟩,(zcy [(900,some 900)] zz46),by simp⟩
   . refine sN ?_
     (refine zat [(0,31)]  ?_;(conv=>whnf);refine dO (zft l zz0) ?_)
     rw [show up (s::r) m=(m,s::r) by simp [up,c]] at hu;exact yy95
 | cons t a =>
  rw [zy8] at hlen;have hal:(a.length:Int)+1=((t::a).length:Nat):=by simp
  (conv=>whnf);cases b with
  | nil =>
   rw [zy16] at hlen;(conv=>whnf)
   try refine sG ?_
   refine zat [(0,31)] (zw ?_);refine yox (a:=t::a) (b:=[]) (c:=[]) zz68 rfl rfl ?_;(conv=>whnf);refine ⟨_,_,zft [] zz3,⟨⟨⟨rfl,rfl⟩,trivial⟩,rfl,rfl,rfl⟩,?_⟩;(conv=>whnf);subst hu;refine zam [(0,some 31)] rfl rfl trivial rfl rfl ⟨⟨rfl,.inl ⟨31,rfl,rfl⟩⟩,trivial⟩
  | cons s r =>
   rw [zy8] at hlen;have hs:=hl s zz68;have hrl:(s::r).length=r.length+1:=rfl;refine sT ?_;refine zaa zz0 (zw ?_);refine zal (a:=t::a) h zz3 (zw ?_);refine sF ?_;by_cases c:s.lo<=m+1
   . refine sT ?_
     refine zaa zz0 (zw ?_);refine zal (a:=t::a) h zz3 (zw ?_);refine zaa zz0 (zw ?_);refine ⟨⟨((t::(a++[s]),r),if s.hi>m then s.hi else m),by rw [h];simp,by dsimp only;rw [hu,up,zy1 c],by dsimp only;split<;>omega,by dsimp only;split<;>omega⟩,(zcy [(900,some 900)] zz46),by simp⟩
   . refine sN ?_
     refine zat [(0,31)] (zw ?_);refine yox (a:=t::a) (b:=s::r) (c:=[]) zz68 rfl rfl ?_;(conv=>whnf);refine ⟨_,_,zft (s::r) zz0,⟨⟨⟨rfl,rfl⟩,trivial⟩,rfl,rfl,rfl⟩,?_⟩;(conv=>whnf);rw [show up (s::r) m=(m,s::r) by simp [up,c]] at hu;subst hu;refine zam [(0,some 31)] rfl rfl trivial rfl rfl ⟨⟨rfl,.inl ⟨31,rfl,rfl⟩⟩,trivial⟩
instance:DecidableEq Span:=fun a b=>decidable_of_iff (a.lo=b.lo/\a.hi=b.hi) ⟨fun h=>by cases a;cases b;simp_all,fun h=>by rw [h];simp⟩
end Ser
namespace Ser
def p1 (n:Int):List Span->Int×Int->Int×Int
 | [],p=>p
 | s::r,p=>p1 n r (if s.hi=n-1 then (s.lo,p.2) else if s.lo=n+1 then (p.1,s.hi) else p)
def p2 (n lo hi:Int):List Span->Bool->List Span
 | [],put=>if put then [] else [⟨lo,hi⟩]
 | s::r,put=>if s.hi=n-1\/s.lo=n+1 then p2 n lo hi r put else if put=false/\s.lo>n then ⟨lo,hi⟩::s::p2 n lo hi r true else s::p2 n lo hi r put
end Ser
namespace Rcv
open Srt Jn Ser
def xee (r:Receiver) (a b c d:HV):List HV:=[i64 r.config.streams,i64 r.config.part,i64 r.config.packet,i64 r.config.paths,i64 r.config.turns,i64 r.config.waiting,i64 r.config.first,i64 r.cum,a,b,c,d]
abbrev xnl (l:List Span):zad:=.live (.row 199 2 (l.map Span.row))
abbrev xpm (l:List zav):zad:=.live (.row 162 12 (l.map zav.row))
abbrev ytc (l:List Int):zad:=.live (.row 3 1 (l.map fun n=>[pi n]))
abbrev xrj (l:List zcr):zad:=.live (.row 56 4 (l.map zcr.row))
abbrev xpl (r:Receiver) (a b c d:Nat):HV:=.agg (xee r (.own a) (.own b) (.own c) (.own d))
abbrev xed (r:Receiver) (a b c d:Nat) (L:List (Nat×zad)):List (Nat×zad):=(a,xnl r.zaq)::(b,xpm r.pieces)::(c,ytc r.zbf)::(d,xrj r.log)::L
abbrev tkH (r:Receiver):List (Nat×zad):=(1000,.live (.cells 225 (xee r (.own 1001) (.own 1002) (.own 1003) (.own 1004))))::xed r 1001 1002 1003 1004 []
abbrev tkD (r:Receiver):List (Nat×zad):=(1000,.live (.cells 225 (xee r (.own 0) (.own 1) (.own 2) (.own 3))))::xed r 0 1 2 3 [(1001,.dead),(1002,.dead),(1003,.dead),(1004,.dead)]
def yag (c:Config):Receiver:=⟨c,c.first-1,[],[],List.replicate (max c.streams 0).toNat 0,[]⟩
theorem zqs (c:Config) (h1:-9223372036854775808<c.first) (h2:c.first<=9223372036854775807) (h3:c.streams<=1099511627776) :
 zao Tryz.prog 110 [c.hv] zaf (xpl (yag c) 0 1 2 3) (lk .free (xed (yag c) 0 1 2 3 [])):=by
 refine zan mixed Tryz.func110 zz5 [] (fun _=>.inl rfl) ?_;(conv=>whnf);refine sF ?_;refine zaa (c:=(0<=(if 0>c.streams then 0 else c.streams:Int)/\(if 0>c.streams then 0 else c.streams:Int)=(if 0>c.streams then 0 else c.streams:Int)/\(if 0>c.streams then 0 else c.streams:Int)*(8:Nat)<=140737488355328)) (by split<;>omega) (zw ?_);refine sD ?_;refine zam [(0,none),(1,none),(2,some 10),(3,none)] rfl rfl trivial rfl rfl ⟨⟨rfl,.inr ⟨rfl,rfl⟩⟩,⟨rfl,.inr ⟨rfl,rfl⟩⟩,⟨rfl,.inl ⟨10,rfl,?_⟩⟩,⟨rfl,.inr ⟨rfl,rfl⟩⟩,trivial⟩;refine zar ?_;rw [show (yag c).zbf=List.replicate (max c.streams 0).toNat 0 from rfl,zy155];have:(max c.streams 0).toNat=(if 0>c.streams then 0 else c.streams:Int).toNat:=by split<;>omega
 rw [this];rfl
structure Fit (r:Receiver):Prop where
 zaq:r.zaq.length<2 ^ 36
 pieces:r.pieces.length<2 ^ 22
 bytes:tot r.pieces<2 ^ 22
 zbf:r.zbf.length<2 ^ 36
 log:r.log.length<2 ^ 36
 data:∀ a∈r.log,a.data.length<2 ^ 40
abbrev xlk:List HV:=[i64 0,i64 0,i64 0,i64 0,i64 0,i64 0,i64 0,i64 0,zhh,zhh,zhh,zhh]
theorem zdm (r:Receiver) (hr:Fit r):zao Tryz.prog 111 [r.hv] zaf (xpl r 0 1 2 3) (lk .free (xed r 0 1 2 3 [])):=by
 obtain ⟨h1,h2,h3,h4,h5,h6⟩:=hr;refine zan mixed Tryz.func111 zz5 [] (fun _=>.inl rfl) ?_;(conv=>whnf)
 (refine zat [(0,11)]  ?_;(conv=>whnf);refine dO (Cl.zft r.zaq zz0) ?_)
 (refine zat [(0,14)]  ?_;(conv=>whnf);refine dO (Cl.zrh r.zbf zz0) ?_)
 refine sD ?_;refine ⟨{x:List zav×List zav // r.pieces=x.1++x.2},fun | ⟨(A,B),_⟩=>hs 56 [(1,.ptr 1 0),(2,.ptr 2 0),(3,.own 900),(18,pieces r.pieces),(19,i64 r.pieces.length),(20,i64 A.length)] [(1,.live (.cells 37 (xee r (.own 11) (pieces r.pieces) (.own 14) (.p (.sl 4 (r.log.map zcr.row)))))),(2,.live (.cells 37 xlk)),(11,xnl r.zaq),(14,ytc r.zbf),(900,xpm A)],fun x=>x.1.2.length,⟨([],r.pieces),rfl⟩,?_,?_⟩
 . exact (zem [(1,some 1),(2,some 2),(11,some 11),(14,some 14),(900,none)])
 rintro ⟨⟨A,B⟩,h⟩;dsimp only at h;have hl:r.pieces.length=A.length+B.length:=by rw [h];simp
 (conv=>whnf);cases B with
 | cons p B =>
  have hp:p.chunk.data.length<=tot r.pieces:=xks zz68;rw [zy8] at hl;refine sT ?_;refine zal h rfl (zw ?_)
  (refine zat [(0,27)]  ?_;(conv=>whnf);refine dO (Cl.zdb p.chunk.data zz0) ?_)
  refine zaa (c:=((A.map zav.row).length+1)*136<=140737488355328) zz4 (zw ?_);refine sF ?_;refine ⟨⟨(A++[p],B),by rw [h];simp⟩,(zcy [(1,some 1),(2,some 2),(11,some 11),(14,some 14),(900,some 33)] (by repeat' (first | exact z0 | refine z1 ?_ | refine ⟨?_,?_⟩ | ((exact zce (f:=zav.row) rfl rfl)) | exact z2))),by simp⟩
 | nil =>
  rw [zy16] at hl;rw [zy9] at h;refine sN ?_;refine ⟨{x:List zcr×List zcr // r.log=x.1++x.2},fun | ⟨(A,B),_⟩=>hs 56 [(1,.ptr 1 0),(2,.ptr 2 0),(3,.own 900),(6,.own 901),(36,.p (.sl 4 (r.log.map zcr.row))),(37,i64 r.log.length),(38,i64 A.length)] [(1,.live (.cells 37 (xee r (.own 11) (pieces r.pieces) (.own 14) (.p (.sl 4 (r.log.map zcr.row)))))),(2,.live (.cells 37 xlk)),(11,xnl r.zaq),(14,ytc r.zbf),(900,xpm r.pieces),(901,xrj A)],fun x=>x.1.2.length,⟨([],r.log),rfl⟩,?_,?_⟩
  . exact (zcy [(1,some 1),(2,some 2),(11,some 11),(14,some 14),(900,some 900),(901,none)] zz49)
  rintro ⟨⟨A,B⟩,h⟩;dsimp only at h;have hl:r.log.length=A.length+B.length:=by rw [h];simp
  (conv=>whnf);cases B with
  | cons p B =>
   have hp:=h6 p zz68;rw [zy8] at hl;refine sT ?_;refine zal h rfl (zw ?_)
   (refine zat [(0,44)]  ?_;(conv=>whnf);refine dO (Cl.zdb p.data zz0) ?_)
   refine zaa (c:=((A.map zcr.row).length+1)*48<=140737488355328) zz4 (zw ?_);refine sF ?_;refine ⟨⟨(A++[p],B),by rw [h];simp⟩,(zcy [(1,some 1),(2,some 2),(11,some 11),(14,some 14),(900,some 900),(901,some 49)] (by repeat' (first | exact z0 | refine z1 ?_ | refine ⟨?_,?_⟩ | ((exact zce (f:=zcr.row) rfl rfl)) | exact z2))),by simp⟩
  | nil =>
   rw [zy16] at hl;rw [zy9] at h;refine sN ?_;refine zam [(0,some 11),(1,some 900),(2,some 14),(3,some 901)] rfl rfl trivial rfl rfl ⟨⟨rfl,.inl ⟨11,rfl,rfl⟩⟩,⟨rfl,.inl ⟨900,rfl,rfl⟩⟩,⟨rfl,.inl ⟨14,rfl,rfl⟩⟩,⟨rfl,.inl ⟨901,rfl,?_⟩⟩,trivial⟩;exact zar (by rw [h])
theorem yje (r:Receiver) (h2:r.pieces.length<2 ^ 40) (h3:tot r.pieces<2 ^ 60):zao Tryz.prog 179 [r.hv] zaf (i64 (tot r.pieces:Nat)) zaf:=by
 refine zap mixed Tryz.func179 zz5 ?_;(conv=>whnf);refine ⟨{x:List zav×List zav // r.pieces=x.1++x.2},fun | ⟨(A,B),_⟩=>hs 21 [(3,i64 (tot A:Nat)),(7,pieces r.pieces),(8,i64 r.pieces.length),(9,i64 A.length)] [],fun x=>x.1.2.length,⟨([],r.pieces),rfl⟩,?_,?_⟩
 . exact (zem [])
 rintro ⟨⟨A,B⟩,h⟩;dsimp only at h;have hl:r.pieces.length=A.length+B.length:=by rw [h];simp
 have ht:tot r.pieces=tot A+tot B:=by rw [h,zyh]
 (conv=>whnf);cases B with
 | cons p B =>
  rw [zy8] at hl;rw [zfl] at ht;refine sT ?_;refine zal h rfl (zw ?_);refine sF ?_;refine sF ?_;exact ⟨⟨(A++[p],B),by rw [h];simp⟩,(zcy [] (by repeat' (first | exact z0 | refine z1 ?_ | refine ⟨?_,?_⟩ | ((exact zbl (by rw [zyh,zfl];simp [tot]))) | exact z2))),by simp⟩
 | nil =>
  rw [zy16] at hl;rw [zy9] at h;refine sN ?_;rw [h]
def zdg (s m:Int) (o:Bool) (p:zav):Bool:=decide (p.chunk.stream=s)&&decide (p.chunk.mid=m)&&(p.chunk.ordered==o)
theorem xaa (p:zav) (s m:Int) (o:Bool):zao Tryz.prog 199 [.rp p.row,i64 s,i64 m,zbm o] zaf (zbm (zdg s m o p)) zaf:=by
 refine zap mixed Tryz.func199 zz5 ?_;(conv=>whnf);by_cases c1:p.chunk.stream=s
 . refine zai zz52 ?_;conv=>whnf
   by_cases c2:p.chunk.mid=m
   . refine zai zz47 ?_;conv=>whnf
     simp [zdg,c1,c2]
   . refine zah zz47 (zw ?_)
     simp [zdg,c2]
 . refine zah zz52 (zw ?_)
   simp [zdg,c1]
theorem ytj (s m:Int) (o:Bool) (p:zav):zao Tryz.prog 211 [p.hv,.rp [pi s],.rp [pi m],.rp [pb o]] zaf (zbm (zdg s m o p)) zaf:=by
 refine zap mixed Tryz.func211 zz5 ?_;(conv=>whnf)
 ((refine zbo ?_;(conv=>whnf);refine ⟨_,xaa p s m o,rfl,?_⟩;conv=>whnf);try refine sG ?_)
def zma (r:Receiver) (s m:Int) (o:Bool):Receiver:={r with pieces:=r.pieces.filter fun p=>!zdg s m o p}
theorem zxw (r:Receiver) (s m:Int) (o:Bool) (h2:r.pieces.length<2 ^ 38) :
 zao Tryz.prog 201 [.ptr 1000 0,i64 s,i64 m,zbm o] (lk .free (tkH r)) (.tup []) (lk .free (tkD (zma r s m o))):=by
 refine zan mixed Tryz.func201 zz5 [1000,1001,1002,1003,1004] zbk ?_;(conv=>whnf)
 (refine zac [false,true] [(1000,1002)] [(0,15)] ?_;(conv=>whnf);refine dG (Cl.yrr (fun p=>ytj s m o p) r.pieces zz0) ?_)
 (exact zcc (pK5 [(0,some 1001),(1,some 15),(2,some 1003),(3,some 1004)]))
def dlv (r:Receiver) (s m:Int) (o:Bool):Receiver×Bool:=match join (r.pieces.filter (zdg s m o)) with
 | none=>(r,false)
 | some b=>({zma r s m o with log:=r.log++[⟨s,m,o,b⟩]},true)
theorem znx (f:zav->Bool):∀ l:List zav,tot (l.filter f)<=tot l
 | []=>zy19 _
 | p::l=>by
  have:=znx f l;rw [zy64];split
  . rw [zfl,zfl];omega
  . rw [zfl];omega
theorem zmx (r:Receiver) (s m:Int) (o:Bool) (h2:r.pieces.length<2 ^ 37) (h3:tot r.pieces<2 ^ 40) (h4:r.log.length<2 ^ 38) :
 zao Tryz.prog 183 [.ptr 1000 0,i64 s,i64 m,zbm o] (lk .free (tkH r)) (zbm (dlv r s m o).2) (lk .free (tkD (dlv r s m o).1)):=by
 refine zan mixed Tryz.func183 zz5 [1000,1001,1002,1003,1004] zbk ?_;(conv=>whnf);refine ⟨{x:List zav×List zav // r.pieces=x.1++x.2},fun | ⟨(A,B),_⟩=>hsP [1000,1001,1002,1003,1004] 61 [(0,.ptr 1000 0),(1,i64 s),(2,i64 m),(3,zbm o),(8,zbm false),(9,.own 900),(18,.own 1002),(19,i64 r.pieces.length),(20,i64 A.length)] (tkH r++[(900,xpm (A.filter (zdg s m o)))]),fun x=>x.1.2.length,⟨([],r.pieces),rfl⟩,?_,?_⟩
 . exact (zbx (pK5 [(900,none)]) zz2)
 rintro ⟨⟨A,B⟩,h⟩;dsimp only at h;have hl:r.pieces.length=A.length+B.length:=by rw [h];simp
 have hf:=zy72 (zdg s m o) A;(conv=>whnf);cases B with
 | cons p B =>
  rw [zy8] at hl;refine sT ?_;refine sO ?_;refine zal h rfl (zw ?_)
  (refine cL ?_;refine dL (xaa p s m o) ?_)
  cases hp:zdg s m o p with
  | true =>
   conv=>whnf
   try refine sG ?_
   refine zaa (c:=(((A.filter (zdg s m o)).map zav.row).length+1)*136<=140737488355328) zz4 (zw ?_)
   try refine sG ?_
   refine sF ?_;exact ⟨⟨(A++[p],B),by rw [h];simp⟩,(zbx (pK5 [(900,some 31)]) (by repeat' (first | exact z0 | refine z1 ?_ | refine ⟨?_,?_⟩ | ((exact zce (f:=zav.row) (by rw [zy59,zy64,zy1 hp];rfl) rfl)) | exact z2))),by simp⟩
  | false =>
   conv=>whnf
   try refine sG ?_
   refine sF ?_;exact ⟨⟨(A++[p],B),by rw [h];simp⟩,(zbx (pK5 [(900,some 900)]) (by repeat' (first | exact z0 | refine z1 ?_ | refine ⟨?_,?_⟩ | ((exact zar (by rw [zy59,zy64,zy0 (by rw [hp];decide)];simp))) | exact z2))),by simp⟩
 | nil =>
  rw [zy16] at hl;rw [zy9] at h;have ht:=znx (zdg s m o) A;have hA:tot A=tot r.pieces:=by rw [h]
  have hd:dlv r s m o=match join (A.filter (zdg s m o)) with
   | none=>(r,false)
   | some b=>({zma r s m o with log:=r.log++[⟨s,m,o,b⟩]},true):=by rw [dlv,h]
  have ps:=yzv (A.filter (zdg s m o)) zz0 zz0;refine sN ?_;cases hj:join (A.filter (zdg s m o)) with
  | none =>
   rw [hj] at hd ps;rw [hd]
   (refine zat [(0,35)]  ?_;(conv=>whnf);refine dO ps ?_)
   exact yy78
  | some b =>
   rw [hj] at hd ps;rw [hd]
   (refine zat [(0,35)]  ?_;(conv=>whnf);refine dO ps ?_)
   refine zaa (c:=((r.log.map zcr.row).length+1)*48<=140737488355328) zz4 (zw ?_)
   try refine sG ?_
   (refine zac [] [(1000,1000),(1001,1001),(1002,1002),(1003,1003),(1004,52)] [(0,910),(1,911),(2,912),(3,913)] ?_;(conv=>whnf);refine dG (zxw {r with log:=r.log++[⟨s,m,o,b⟩]} s m o zz60) ?_ ⟨rfl,rfl,rfl,⟨zz1,⟨zz1,⟨zz1,⟨zz1,⟨⟨rfl,_,rfl,.inl ⟨rfl,zce (f:=zcr.row) (x:=⟨s,m,o,b⟩) rfl rfl⟩⟩,trivial⟩⟩⟩⟩⟩,⟨⟨rfl,rfl⟩,⟨⟨rfl,rfl⟩,⟨⟨rfl,rfl⟩,⟨⟨rfl,rfl⟩,trivial⟩⟩⟩⟩,rfl,rfl,rfl⟩)
   exact yy57
theorem zuq {l:List zav} {b:List UInt8} (h:join l=some b):0<l.length:=by
 unfold join at h;split at h
 . cases h
 . rename_i c;exact zy30.2 c
theorem zpp {r:Receiver} {s m:Int} {o:Bool} (h:(dlv r s m o).2=true):(dlv r s m o).1.pieces.length<r.pieces.length:=by
 unfold dlv at h ⊢;split
 . rename_i hj;rw [hj] at h;cases h
 . rename_i b hj
   have h1:=zuq hj;have h2:(r.pieces.filter fun p=>!zdg s m o p).length+(r.pieces.filter (zdg s m o)).length=r.pieces.length:=by
    induction r.pieces with
    | nil=>rfl
    | cons p l ih =>
     rw [zy64,zy64];cases zdg s m o p<;>simp<;>omega
   show (r.pieces.filter fun p=>!zdg s m o p).length<_;omega
theorem zkl (r:Receiver) (s m:Int) (o:Bool):(dlv r s m o).1.zbf=r.zbf/\(dlv r s m o).1.cum=r.cum/\(dlv r s m o).1.zaq=r.zaq/\(dlv r s m o).1.config=r.config/\(dlv r s m o).1.pieces.length<=r.pieces.length/\tot (dlv r s m o).1.pieces<=tot r.pieces /\
 (dlv r s m o).1.log.length+(dlv r s m o).1.pieces.length<=r.log.length+r.pieces.length:=by
 have hl:=fun h=>zpp (r:=r) (s:=s) (m:=m) (o:=o) h
 unfold dlv at hl ⊢;split
 . exact ⟨rfl,rfl,rfl,rfl,zy19 _,zy19 _,zy19 _⟩
 . rename_i b hj
   rw [hj] at hl;have h1:=hl rfl;dsimp only [zma] at h1 ⊢;refine ⟨rfl,rfl,rfl,rfl,zy72 _ _,znx _ _,?_⟩;simp only [zy4,zy48];omega
def yez (r:Receiver) (k:Nat):Receiver:={r with zbf:=r.zbf.set k (r.zbf[k]?.getD 0+1)}
def zqz:Nat->Receiver->Nat->Receiver
 | 0,r,_=>r
 | n+1,r,k=>if (dlv r k (tag (r.zbf[k]?.getD 0)) true).2 then zqz n (yez (dlv r k (tag (r.zbf[k]?.getD 0)) true).1 k) k else (dlv r k (tag (r.zbf[k]?.getD 0)) true).1
def turns (r:Receiver) (k:Nat):Receiver:=zqz (r.pieces.length+1) r k
theorem zis (r:Receiver) (k:Nat):turns r k=if (dlv r k (tag (r.zbf[k]?.getD 0)) true).2 then turns (yez (dlv r k (tag (r.zbf[k]?.getD 0)) true).1 k) k else (dlv r k (tag (r.zbf[k]?.getD 0)) true).1:=by
 have gen:∀ (n m:Nat) (r:Receiver),r.pieces.length<n->r.pieces.length<m->zqz n r k=zqz m r k:=by
  intro n
  induction n with
  | zero=>intro m r h;omega
  | succ n ih =>
   intro m r h1 h2;cases m with
   | zero=>omega
   | succ m =>
    rw [zqz,zqz];split
    . rename_i hd
      have:=zpp hd;exact ih m _ (by show (dlv r k _ true).1.pieces.length<n;omega) (by show (dlv r k _ true).1.pieces.length<m;omega)
    . rfl
 conv=>lhs;rw [turns,zqz]
 split
 . rename_i hd
   have:=zpp hd;exact gen _ _ _ (by show (dlv r k _ true).1.pieces.length<_;omega) (by show (dlv r k _ true).1.pieces.length<_;exact zy170 _)
 . rfl
structure xlw (r:Receiver) (k:Nat):Prop where
 pieces:r.pieces.length<2 ^ 22
 bytes:tot r.pieces<2 ^ 22
 log:r.log.length+r.pieces.length<2 ^ 37
 has:k<r.zbf.length
 lo:-(2 ^ 60)<r.zbf[k]?.getD 0
 hi:r.zbf[k]?.getD 0+r.pieces.length<2 ^ 60
theorem xah (r:Receiver) (k:Nat) (hf:xlw r k) :
 zao Tryz.prog 182 [.ptr 1000 0,i64 k] (lk .free (tkH r)) (.tup []) (lk .free (tkD (turns r k))):=by
 generalize hT:turns r k=T;refine zan mixed Tryz.func182 zz5 [1000,1001,1002,1003,1004] zbk ?_;(conv=>whnf);refine ⟨{x:Receiver // xlw x k/\turns x k=T},fun | ⟨x,_⟩=>hsP [1000,1001,1002,1003,1004] 26 [(0,.ptr 1000 0),(1,i64 k)] ((1000,.live (.cells 225 (xee x (.own 900) (.own 901) (.own 902) (.own 903))))::xed x 900 901 902 903 [(1001,.dead),(1002,.dead),(1003,.dead),(1004,.dead)]),fun x=>x.1.pieces.length,⟨r,hf,hT⟩,?_,?_⟩
 . exact (zdf (pK5 [(900,some 1001),(901,some 1002),(902,some 1003),(903,some 1004)]))
 rintro ⟨x,⟨h1,h2,h3,h4,h5,h6⟩,he⟩;(conv=>whnf);refine sO ?_;refine zdw k rfl h4 (zw ?_);have hg:x.zbf[k]?.getD 0=x.zbf[k]:=by simp [h4]
 (refine cL ?_;refine dL (zdd _) ?_)
 have hstep:=zis x k;rw [he,hg] at hstep;rw [hg] at h5 h6;obtain ⟨k1,k2,k3,k4,k5,k6,k7⟩:=zkl x k (tag x.zbf[k]) true;have hless:(dlv x k (tag x.zbf[k]) true).2=true->(dlv x k (tag x.zbf[k]) true).1.pieces.length<x.pieces.length:=fun h=>zpp h
 (refine zac [] [(1000,1000),(1001,900),(1002,901),(1003,902),(1004,903)] [(0,910),(1,911),(2,912),(3,913)] ?_;(conv=>whnf);refine dG (zmx x k (tag x.zbf[k]) true zz0 zz0 zz0) ?_)
 generalize hD:dlv x k (tag x.zbf[k]) true=D at *
 obtain ⟨y,ok⟩:=D;dsimp only at k1 k2 k3 k4 k5 k6 k7 hless hstep;have h4':k<y.zbf.length:=by rw [k1];exact h4
 have hyk:y.zbf[k]=x.zbf[k]:=by simp only [k1]
 cases ok with
 | false =>
  have hstep:T=y:=hstep;subst hstep;(conv=>whnf)
  try refine sG ?_
  exact yy57
 | true =>
  have hless:=hless rfl;(conv=>whnf)
  try refine sG ?_
  refine sO ?_;refine zdw k rfl h4' (zw ?_);rw [hyk];refine sF ?_;refine sO ?_;refine zdw k rfl h4' (zw ?_);have hb:(yez y k).zbf[k]?.getD 0=x.zbf[k]+1:=by
   show (y.zbf.set k (y.zbf[k]?.getD 0+1))[k]?.getD 0=_;rw [zy17 h4',zy2 h4',hyk];rfl
  refine ⟨⟨yez y k,⟨by show y.pieces.length<_;omega,by show tot y.pieces<_;omega,by show y.log.length+y.pieces.length<_;omega,by show k<(y.zbf.set k _).length;rw [zy25];exact h4',by rw [hb];omega,by rw [hb];show _+(y.pieces.length:Int)<_;omega⟩,?_⟩,(zbx (pK5 [(900,some 910),(901,some 911),(902,some 912),(903,some 913)]) (by repeat' (first | exact z0 | refine z1 ?_ | refine ⟨?_,?_⟩ | ((refine zar ?_;show _=(y.zbf.set k (y.zbf[k]?.getD 0+1)).map _;rw [zy110,zy2 h4',hyk];rfl)) | exact z2))),by show y.pieces.length<x.pieces.length;omega⟩;rw [hstep];rfl
end Rcv
end Go.HL
