/- Walks, contracts and laws of the law's functions: part 4. No condition. -/
import Derived.Test.YticmofoeecjnhaaGreatQFc
open Go.Proofs
set_option maxHeartbeats 32000000
set_option maxRecDepth 100000
set_option linter.unusedSimpArgs false
theorem yy6 {P:Prop} (h:P:=by
 cases d3:old u.clock x.came x.life with
 | true =>
  (conv=>whnf);refine sD ?_
  repeat refine sG ?_
  (refine zac [] [(1000,1000),(1001,900),(1002,901),(1003,902),(1004,903),(1005,904),(1006,905),(1007,1007)] [(0,910),(1,911),(2,912),(3,913),(4,914),(5,915)] ?_;(conv=>whnf);refine dG pg ?_)
  refine sF ?_;refine hQ _ _ ?_;conv=>whnf
  rw [zhk,zy1 (by rw [hdue];simp [d1,d2,d3])] at zdc kn kr;exact ⟨⟨((A++[x],B),zev u x.id),zan k1,zdc,kn,k4.trans kr⟩,(zcu (pK8 ((900,some 910)::(901,some 911)::(902,some 912)::(903,some 913)::(904,some 914)::(905,some 915)::[(34,some 34)]))),by simp⟩
 | false =>
 (conv=>whnf);by_cases d4:x.state=3
 case neg =>
  refine zaf ?_ ?_
  . simpa using d4
  (conv=>whnf);refine sD ?_
  repeat refine sG ?_
  refine sF ?_;refine hQ _ _ ?_;conv=>whnf
  rw [zhk,zy0 (by rw [hdue];simp [d1,d2,d3,d4])] at zdc;exact ⟨⟨((A++[x],B),u),zan k1,zdc,k3,k4⟩,(zcu (pK8 (pJ6 [(34,some 34)]))),by simp⟩
 refine zai ?_ ?_
 . simpa using d4
 (conv=>whnf);by_cases d5:x.tries>0
 case neg =>
  refine zaf ?_ ?_
  . simpa using d5
  (conv=>whnf);refine sD ?_
  repeat refine sG ?_
  refine sF ?_;refine hQ _ _ ?_;conv=>whnf
  rw [zhk,zy0 (by rw [hdue];simp [d1,d2,d3,d4,d5])] at zdc;exact ⟨⟨((A++[x],B),u),zan k1,zdc,k3,k4⟩,(zcu (pK8 (pJ6 [(34,some 34)]))),by simp⟩
 refine zai ?_ ?_
 . simpa using d5
 (conv=>whnf);refine sD ?_;by_cases d6:x.times>x.tries
 case neg =>
  refine zaf ?_ ?_
  . simpa using d6
  conv=>whnf
  repeat refine sG ?_
  refine sF ?_;refine hQ _ _ ?_;conv=>whnf
  rw [zhk,zy0 (by rw [hdue];simp [d1,d2,d3,d4,d5,d6])] at zdc;exact ⟨⟨((A++[x],B),u),zan k1,zdc,k3,k4⟩,(zcu (pK8 (pJ6 [(34,some 34)]))),by simp⟩
 refine zai ?_ ?_
 . simpa using d6
 conv=>whnf
 repeat refine sG ?_
 (refine zac [] [(1000,1000),(1001,900),(1002,901),(1003,902),(1004,903),(1005,904),(1006,905),(1007,1007)] [(0,910),(1,911),(2,912),(3,913),(4,914),(5,915)] ?_;(conv=>whnf);refine dG pg ?_)
 refine sF ?_;refine hQ _ _ ?_;conv=>whnf
 rw [zhk,zy1 (by rw [hdue];simp [d1,d2,d3,d4,d5,d6])] at zdc kn kr;exact ⟨⟨((A++[x],B),zev u x.id),zan k1,zdc,kn,k4.trans kr⟩,(zcu (pK8 ((900,some 910)::(901,some 911)::(902,some 912)::(903,some 913)::(904,some 914)::(905,some 915)::[(34,some 34)]))),by simp⟩):P:=h
theorem yy10 {P:Prop} (h:P:=by
 exact ⟨⟨((A++[x],B),u),zan k1,zdc,k3,k4⟩,(zcu (pK8 (pJ6 [(34,some 34)]))),by simp⟩):P:=h
theorem yy19 {P:Prop} (h:P:=by
 rw [<- hid] at pg;(conv=>whnf)
 repeat refine sG ?_
 (refine zac [] [(1000,1000),(1001,900),(1002,901),(1003,902),(1004,903),(1005,904),(1006,905),(1007,1007)] [(0,910),(1,911),(2,912),(3,913),(4,914),(5,915)] ?_;(conv=>whnf);refine dG pg ?_)
 refine sF ?_;refine hQ _ _ ?_;conv=>whnf
 exact ⟨⟨((A++[m],B),zev t m.id),zan k1,zdc,kn,k4.trans kr⟩,(zcu (pK8 ((900,some 910)::(901,some 911)::(902,some 912)::(903,some 913)::(904,some 914)::(905,some 915)::[(11,some 11)]))),by simp⟩):P:=h
theorem yy48 {P:Prop} (h:P:=by
 have hz:=zco k1;rw [zy7] at k1;rw [<- k1] at k2;refine sN ?_;refine hQ _ _ ?_;conv=>whnf
 have hu:u=E:=by rw [<- k2,hE2]
 rw [<- hu]
 (exact zby (pK8 [(0,some 900),(1,some 901),(2,some 902),(3,some 903),(4,some 904),(5,some 905)]))):P:=h
theorem yy58 {P:Prop} (h:P:=by
 rw [zju,zy0 (by rw [ho];decide)] at zdc;(conv=>whnf)
 repeat refine sG ?_
 refine sF ?_;refine hQ _ _ ?_;conv=>whnf
 exact ⟨⟨((A++[m],B),t),zan k1,zdc,k3,k4⟩,(zcu (pK8 (pJ6 [(11,some 11)]))),by simp⟩):P:=h
theorem yy80 {P:Prop} (h:P:=by
 refine zaf ?_ ?_
 . simp [c1]
 (conv=>whnf);refine zai ?_ ?_
 . simp [c2]
 conv=>whnf
 repeat refine sG ?_
 (exact zby (pK8 [(0,none),(1,none)]))):P:=h
theorem yy97 {P:Prop} (h:P:=by
 refine zai ?_ ?_
 . simp [c1]
 conv=>whnf
 repeat refine sG ?_
 (exact zby (pK8 [(0,none),(1,none)]))):P:=h
theorem yy40 {P:Prop} (h:P:=by
 refine zaf ?_ ?_
 . simpa using d1
 conv=>whnf
 repeat refine sG ?_
 refine sF ?_;exact ⟨⟨(i+1,t,a',b'),by dsimp only;omega,by rw [hst,hno fun h=>d1 h.1],k3,k4,by dsimp only;omega⟩,(zbu (zhe [(900,some 900),(901,some 901)]) zz2),by dsimp only;omega⟩):P:=h
theorem yy41 {P:Prop} (h:P:=by
 refine zaf ?_ ?_
 . simpa using d2
 conv=>whnf
 repeat refine sG ?_
 refine sF ?_;exact ⟨⟨(i+1,t,a',b'),by dsimp only;omega,by rw [hst,hno fun h=>d2 h.2],k3,k4,by dsimp only;omega⟩,(zbu (zhe [(900,some 900),(901,some 901)]) zz2),by dsimp only;omega⟩):P:=h
theorem yy84 {P:Prop} (h:P:=by
 have hin:i=s.out.length:=by omega
 subst hin;refine sN ?_;rw [k2] at hag;subst hag
 (exact zby (zhe [(0,some 900),(1,some 901)]))):P:=h
theorem yy2 {P:Prop} (h:P:=by
 refine zaj hm rfl (zw ?_);refine zap (z:=m.sent+many s m) hWs (zw ?_);refine zaj hm rfl (zw ?_);refine sD ?_;have hm':(zhx s k m).queue[k]?=some {m with mid:=zci s m}:=by show (s.queue.set k _)[k]?=_;rw [zy20 hkl]
 have hmr:(s.queue.map zag.row)[k]?=some m.row:=by rw [zy16,hm];rfl
 (refine cL ?_;refine dL (zct s.next) ?_)
 refine zaj hm rfl (zw ?_)
 (refine zac [] [(1000,1000),(1001,1001),(1002,1002),(1003,1003),(1004,1004),(1005,1005),(1006,1006),(1007,1007),(1008,1008)] [] ?_;(conv=>whnf);refine dG (yeo s a k m hm mf) ?_)
 (refine cL ?_;refine dL (zct (zci s m)) ?_)
 refine zaj hm' rfl (zw ?_);refine zaj hm' rfl (zw ?_);refine zaj hm' rfl (zw ?_);refine zaj hm' rfl (zw ?_);refine zaj hm' rfl (zw ?_);refine zap (z:=m.sent+many s m) hWs (zw ?_);refine zaa (c:=0<=m.sent/\m.sent<=m.sent+many s m/\m.sent+many s m<=((m.message.data.map zdg).length:Int)) ⟨ms,by omega,by rw [zy3];omega⟩ (zw ?_);refine zit (o':=m.sent.toNat) (n':=(many s m).toNat) rfl (show (m.sent+many s m-m.sent).toNat=(many s m).toNat by rw [show m.sent+many s m-m.sent=many s m by omega]) ?_;refine zle (f:=zdg) (l:=m.message.data) (o:=m.sent.toNat) (n:=(many s m).toNat) zz0 ?_;(conv=>whnf)
 (refine zar [(0,150)]  ?_;(conv=>whnf);refine dO (Cl.zcq ((m.message.data.drop m.sent.toNat).take (many s m).toNat) zz3) ?_)
 refine zig [4,10,18,24,29,33,37] ?_ ?_ ?_
 . kernel_rfl
 . refine ⟨?_,?_,?_,?_,?_,?_,?_,trivial⟩
   all_goals
    refine And.intro trivial ?_;refine And.intro trivial ?_;refine And.intro ?_ trivial;(conv=>whnf);refine And.intro ?_ ?_
    . conv=>whnf
      all_goals first | rfl | exact zaj hm rfl rfl
    refine And.intro ?_ trivial;(conv=>whnf)
    all_goals first | rfl | exact zaj hm' rfl rfl
 (conv=>whnf);refine zaj hm' rfl (zw ?_)
 (refine zar [(0,163)]  ?_;(conv=>whnf);refine dO (zjp s.sched {m with mid:=zci s m} (many s m) (ovr s m) zz0 mf.lo mh) ?_)
 refine sD ?_;refine zaj hm' rfl (zw ?_);refine zaj hm' rfl (zw ?_);refine zaj hm' rfl (zw ?_);refine zaj hm' rfl (zw ?_);refine zaa (c:=((s.out.map zbp.row).length+1)*200<=140737488355328) zz14 (zw ?_);refine sD ?_;refine sR ?_;refine zaj hm' rfl (zw ?_);refine zap (z:=m.sent+many s m) hWs (zw ?_);refine zaj hm' rfl (zw ?_);refine zbr rfl zz40 (zw ?_);refine sR ?_;refine zbr rfl zz40 (zw ?_);refine zbj (z':=(s.out.length:Int)) ?_ ?_
 . show W ((((zhx s k m).out.map zbp.row++[_]).length:Int)-1)=_
   rw [zy8,zy3,show (zhx s k m).out=s.out from rfl,zbn (by simp only [zy6,zy13];omega) (by simp only [zy6,zy13];omega)];simp only [zy6,zy13];omega
 (conv=>whnf);refine zaa zz9 (zw ?_)
 (refine zac [] [(1000,1000),(1001,1001),(1002,163),(1003,199),(1004,1004),(1005,1005),(1006,1006),(1007,1007),(1008,1008)] [(0,920)] ?_;(conv=>whnf);refine dG (znk (s2 s k m) a s.out.length (x0 s m) w zz77 hw zz0) ?_ ⟨rfl,rfl,rfl,⟨zz1,⟨⟨rfl,_,rfl,.inl ⟨rfl,yns⟩⟩,⟨zz1,⟨⟨rfl,_,rfl,.inl ⟨rfl,(zca (f:=zbp.row) (x:=x0 s m) rfl rfl)⟩⟩,⟨zz1,⟨zz1,⟨zz1,⟨zz1,⟨zz1,trivial⟩⟩⟩⟩⟩⟩⟩⟩⟩,⟨⟨rfl,rfl⟩,trivial⟩,rfl,rfl,rfl⟩)
 refine sD ?_;cases hov:ovr s m with
 | true =>
  refine zai ?_ ?_
  . exact hov
  conv=>whnf
  repeat refine sG ?_
  refine zbj (z':=((k+1:Nat):Int)) ?_ ?_
  . show W ((k:Int)+1)=_
    rw [zbn (by omega) (by omega)];push_cast;rfl
  conv=>whnf
  (refine zac [] [(1000,1001)] [(0,930)] ?_;(conv=>whnf);refine dG (xcq (s.queue.set k (m2 s m)) k (k+1) zz0 zz3 zz3) ?_)
  rw [zff hc0 hw rfl,zy1 hov] at hG;subst hG
  (exact zcz (pK9 [(0,some 930),(1,some 163),(2,some 199),(3,some 1004),(4,some 1005),(5,some 1006),(6,some 920)]) zz12)
 | false =>
  refine zaf ?_ ?_
  . exact hov
  conv=>whnf
  repeat refine sG ?_
  rw [zff hc0 hw rfl,zy0 (by rw [hov];decide)] at hG;subst hG
  (exact zby (pK9 [(0,some 1001),(1,some 163),(2,some 199),(3,some 1004),(4,some 1005),(5,some 1006),(6,some 920)]))):P:=h
theorem yy20 {P:Prop} (h:P:=by
 subst hG
 repeat refine sG ?_
 (exact zby (pK9 [(0,some 1001),(1,some 1002),(2,some 1003),(3,some 1004),(4,some 1005),(5,some 1006),(6,some 1008)]))):P:=h
theorem yy0 {P:Prop} (h:P:=by
 refine zaj hm rfl (zw ?_);refine zap (z:=m.sent+many s m) hWs (zw ?_);refine zaj hm rfl (zw ?_);refine sD ?_;have hm':(zhx s k m).queue[k]?=some {m with mid:=zci s m}:=by show (s.queue.set k _)[k]?=_;rw [zy20 hkl]
 have hmr:(s.queue.map zag.row)[k]?=some m.row:=by rw [zy16,hm];rfl
 (refine cL ?_;refine dL (zct s.next) ?_)
 refine zaj hm rfl (zw ?_)
 (refine zac [] [(1000,1000),(1001,1001),(1002,1002),(1003,1003),(1004,1004),(1005,1005),(1006,1006),(1007,1007),(1008,1008),(1009,1009)] [] ?_;(conv=>whnf);refine dG (zou s a b k m hm mf) ?_)
 (refine cL ?_;refine dL (zct (zci s m)) ?_)
 refine zaj hm' rfl (zw ?_);refine zaj hm' rfl (zw ?_);refine zaj hm' rfl (zw ?_);refine zaj hm' rfl (zw ?_);refine zaj hm' rfl (zw ?_);refine zap (z:=m.sent+many s m) hWs (zw ?_);refine zaa (c:=0<=m.sent/\m.sent<=m.sent+many s m/\m.sent+many s m<=((m.message.data.map zdg).length:Int)) ⟨ms,by omega,by rw [zy3];omega⟩ (zw ?_);refine zit (o':=m.sent.toNat) (n':=(many s m).toNat) rfl (show (m.sent+many s m-m.sent).toNat=(many s m).toNat by rw [show m.sent+many s m-m.sent=many s m by omega]) ?_;refine zle (f:=zdg) (l:=m.message.data) (o:=m.sent.toNat) (n:=(many s m).toNat) zz0 ?_;(conv=>whnf)
 (refine zar [(0,150)]  ?_;(conv=>whnf);refine dO (Cl.zcq ((m.message.data.drop m.sent.toNat).take (many s m).toNat) zz3) ?_)
 refine zig [4,10,18,24,29,33,37] ?_ ?_ ?_
 . kernel_rfl
 . refine ⟨?_,?_,?_,?_,?_,?_,?_,trivial⟩
   all_goals
    refine And.intro trivial ?_;refine And.intro trivial ?_;refine And.intro ?_ trivial;(conv=>whnf);refine And.intro ?_ ?_
    . conv=>whnf
      all_goals first | rfl | exact zaj hm rfl rfl
    refine And.intro ?_ trivial;(conv=>whnf)
    all_goals first | rfl | exact zaj hm' rfl rfl
 (conv=>whnf);refine zaj hm' rfl (zw ?_)
 (refine zar [(0,163)]  ?_;(conv=>whnf);refine dO (zjp s.sched {m with mid:=zci s m} (many s m) (ovr s m) zz0 mf.lo mh) ?_)
 refine sD ?_;refine zaj hm' rfl (zw ?_);refine zaj hm' rfl (zw ?_);refine zaj hm' rfl (zw ?_);refine zaj hm' rfl (zw ?_);refine zaa (c:=((s.out.map zbp.row).length+1)*200<=140737488355328) zz14 (zw ?_);refine sD ?_;refine sR ?_;refine zaj hm' rfl (zw ?_);refine zap (z:=m.sent+many s m) hWs (zw ?_);refine zaj hm' rfl (zw ?_);refine zbr rfl zz40 (zw ?_);refine sR ?_;refine zbr rfl zz40 (zw ?_);refine zbj (z':=(s.out.length:Int)) ?_ ?_
 . show W ((((zhx s k m).out.map zbp.row++[_]).length:Int)-1)=_
   rw [zy8,zy3,show (zhx s k m).out=s.out from rfl,zbn (by simp only [zy6,zy13];omega) (by simp only [zy6,zy13];omega)];simp only [zy6,zy13];omega
 (conv=>whnf);refine zaa zz9 (zw ?_)
 (refine zac [] [(1000,1000),(1001,1001),(1002,163),(1003,199),(1004,1004),(1005,1005),(1006,1006),(1007,1007),(1008,1008),(1009,1009)] [(0,920)] ?_;(conv=>whnf);refine dG (znl (s2 s k m) a b s.out.length (x0 s m) w zz77 hw zz0) ?_ ⟨rfl,rfl,rfl,⟨zz1,⟨⟨rfl,_,rfl,.inl ⟨rfl,yns⟩⟩,⟨zz1,⟨⟨rfl,_,rfl,.inl ⟨rfl,(zca (f:=zbp.row) (x:=x0 s m) rfl rfl)⟩⟩,⟨zz1,⟨zz1,⟨zz1,⟨zz1,⟨zz1,⟨zz1,trivial⟩⟩⟩⟩⟩⟩⟩⟩⟩⟩,⟨⟨rfl,rfl⟩,trivial⟩,rfl,rfl,rfl⟩)
 refine sD ?_;cases hov:ovr s m with
 | true =>
  refine zai ?_ ?_
  . exact hov
  conv=>whnf
  repeat refine sG ?_
  refine zbj (z':=((k+1:Nat):Int)) ?_ ?_
  . show W ((k:Int)+1)=_
    rw [zbn (by omega) (by omega)];push_cast;rfl
  conv=>whnf
  (refine zac [] [(1000,1001)] [(0,930)] ?_;(conv=>whnf);refine dG (xcq (s.queue.set k (m2 s m)) k (k+1) zz0 zz3 zz3) ?_)
  rw [zff hc0 hw rfl,zy1 hov] at hG;subst hG
  (exact zcz (zhe [(0,some 930),(1,some 163),(2,some 199),(3,some 1004),(4,some 1005),(5,some 1006),(6,some 920),(7,some 1009)]) zz12)
 | false =>
  refine zaf ?_ ?_
  . exact hov
  conv=>whnf
  repeat refine sG ?_
  rw [zff hc0 hw rfl,zy0 (by rw [hov];decide)] at hG;subst hG
  (exact zby (zhe [(0,some 1001),(1,some 163),(2,some 199),(3,some 1004),(4,some 1005),(5,some 1006),(6,some 920),(7,some 1009)]))):P:=h
theorem yy8 {P:Prop} (h:P:=by
 subst hG
 repeat refine sG ?_
 (exact zby (zhe [(0,some 1001),(1,some 1002),(2,some 1003),(3,some 1004),(4,some 1005),(5,some 1006),(6,some 1008),(7,some 1009)]))):P:=h
theorem yy1 {P:Prop} (h:P:=by
 refine zaj hm rfl (zw ?_);refine zap (z:=m.sent+many s m) hWs (zw ?_);refine zaj hm rfl (zw ?_);refine sD ?_;have hm':(zhx s k m).queue[k]?=some {m with mid:=zci s m}:=by show (s.queue.set k _)[k]?=_;rw [zy20 hkl]
 have hmr:(s.queue.map zag.row)[k]?=some m.row:=by rw [zy16,hm];rfl
 (refine cL ?_;refine dL (zct s.next) ?_)
 refine zaj hm rfl (zw ?_)
 (refine zac [] [(1000,1000),(1001,1001),(1002,1002),(1003,1003),(1004,1004),(1005,1005),(1006,1006),(1007,1007),(1008,1008),(1009,1009)] [] ?_;(conv=>whnf);refine dG (zou s a b k m hm mf) ?_)
 (refine cL ?_;refine dL (zct (zci s m)) ?_)
 refine zaj hm' rfl (zw ?_);refine zaj hm' rfl (zw ?_);refine zaj hm' rfl (zw ?_);refine zaj hm' rfl (zw ?_);refine zaj hm' rfl (zw ?_);refine zap (z:=m.sent+many s m) hWs (zw ?_);refine zaa (c:=0<=m.sent/\m.sent<=m.sent+many s m/\m.sent+many s m<=((m.message.data.map zdg).length:Int)) ⟨ms,by omega,by rw [zy3];omega⟩ (zw ?_);refine zit (o':=m.sent.toNat) (n':=(many s m).toNat) rfl (show (m.sent+many s m-m.sent).toNat=(many s m).toNat by rw [show m.sent+many s m-m.sent=many s m by omega]) ?_;refine zle (f:=zdg) (l:=m.message.data) (o:=m.sent.toNat) (n:=(many s m).toNat) zz0 ?_;(conv=>whnf)
 (refine zar [(0,150)]  ?_;(conv=>whnf);refine dO (Cl.zcq ((m.message.data.drop m.sent.toNat).take (many s m).toNat) zz3) ?_)
 refine zig [4,10,18,24,29,33,37] ?_ ?_ ?_
 . kernel_rfl
 . refine ⟨?_,?_,?_,?_,?_,?_,?_,trivial⟩
   all_goals
    refine And.intro trivial ?_;refine And.intro trivial ?_;refine And.intro ?_ trivial;(conv=>whnf);refine And.intro ?_ ?_
    . conv=>whnf
      all_goals first | rfl | exact zaj hm rfl rfl
    refine And.intro ?_ trivial;(conv=>whnf)
    all_goals first | rfl | exact zaj hm' rfl rfl
 (conv=>whnf);refine zaj hm' rfl (zw ?_)
 (refine zar [(0,163)]  ?_;(conv=>whnf);refine dO (zjp s.sched {m with mid:=zci s m} (many s m) (ovr s m) zz0 mf.lo mh) ?_)
 refine sD ?_;refine zaj hm' rfl (zw ?_);refine zaj hm' rfl (zw ?_);refine zaj hm' rfl (zw ?_);refine zaj hm' rfl (zw ?_);refine zaa (c:=((s.out.map zbp.row).length+1)*200<=140737488355328) zz14 (zw ?_);refine sD ?_;refine sR ?_;refine zaj hm' rfl (zw ?_);refine zap (z:=m.sent+many s m) hWs (zw ?_);refine zaj hm' rfl (zw ?_);refine zbr rfl zz40 (zw ?_);refine sR ?_;refine zbr rfl zz40 (zw ?_);refine zbj (z':=(s.out.length:Int)) ?_ ?_
 . show W ((((zhx s k m).out.map zbp.row++[_]).length:Int)-1)=_
   rw [zy8,zy3,show (zhx s k m).out=s.out from rfl,zbn (by simp only [zy6,zy13];omega) (by simp only [zy6,zy13];omega)];simp only [zy6,zy13];omega
 (conv=>whnf);refine zaa zz9 (zw ?_)
 (refine zac [] [(1000,1000),(1001,1001),(1002,163),(1003,199),(1004,1004),(1005,1005),(1006,1006),(1007,1007),(1008,1008),(1009,1009)] [(0,920)] ?_;(conv=>whnf);refine dG (znm (s2 s k m) a b s.out.length (x0 s m) w zz77 hw zz0) ?_ ⟨rfl,rfl,rfl,⟨zz1,⟨⟨rfl,_,rfl,.inl ⟨rfl,yns⟩⟩,⟨zz1,⟨⟨rfl,_,rfl,.inl ⟨rfl,(zca (f:=zbp.row) (x:=x0 s m) rfl rfl)⟩⟩,⟨zz1,⟨zz1,⟨zz1,⟨zz1,⟨zz1,⟨zz1,trivial⟩⟩⟩⟩⟩⟩⟩⟩⟩⟩,⟨⟨rfl,rfl⟩,trivial⟩,rfl,rfl,rfl⟩)
 refine sD ?_;cases hov:ovr s m with
 | true =>
  refine zai ?_ ?_
  . exact hov
  conv=>whnf
  repeat refine sG ?_
  refine zbj (z':=((k+1:Nat):Int)) ?_ ?_
  . show W ((k:Int)+1)=_
    rw [zbn (by omega) (by omega)];push_cast;rfl
  conv=>whnf
  (refine zac [] [(1000,1001)] [(0,930)] ?_;(conv=>whnf);refine dG (xcq (s.queue.set k (m2 s m)) k (k+1) zz0 zz3 zz3) ?_)
  rw [zff hc0 hw rfl,zy1 hov] at hG;subst hG
  (exact zcz (zhe [(0,some 930),(1,some 163),(2,some 199),(3,some 1004),(4,some 1005),(5,some 1006),(6,some 1008),(7,some 920)]) zz12)
 | false =>
  refine zaf ?_ ?_
  . exact hov
  conv=>whnf
  repeat refine sG ?_
  rw [zff hc0 hw rfl,zy0 (by rw [hov];decide)] at hG;subst hG
  (exact zby (zhe [(0,some 1001),(1,some 163),(2,some 199),(3,some 1004),(4,some 1005),(5,some 1006),(6,some 1008),(7,some 920)]))):P:=h
theorem yy12 {P:Prop} (h:P:=by
 rw [zy0 ho] at hP;refine zaf ?_ ?_
 . simpa using ho
 conv=>whnf
 repeat refine sG ?_
 refine zaa (c:=(0:Int)<=zcd s.config.packet B/\zcd s.config.packet B<=((B.map Chunk.row).length:Int)/\((B.map Chunk.row).length:Int)<=((B.map Chunk.row).length:Int)) ⟨by omega,by rw [zy3];omega,by omega⟩ (zw ?_);obtain ⟨x,B1,hx⟩:∃ x B1,B.take r=x::B1:=by
  cases hq:B.take r with
  | nil=>rw [zy105] at hq;rcases hq with hq | hq;omega;exact absurd hq hB
  | cons x B1=>exact ⟨x,B1,rfl⟩
 have hxl:B1.length+1=r:=by have:=congrArg List.length hx;simp at this;omega
 refine hQ2 _ _ (zw ?_);exact ⟨⟨((x::B1,B.drop r),n,acc),by rw [<- hx,zy23],by simp;omega,by simp;omega,by rw [<- i3,hP];simp⟩,(zbu (zhe [(900,some 900)]) zz7),by simp;omega⟩):P:=h
theorem yy16 {P:Prop} (h:P:=by
 cases hq:B.take r with
 | nil=>rw [zy105] at hq;rcases hq with hq | hq;omega;exact absurd hq hB
 | cons x B1=>exact ⟨x,B1,rfl⟩):P:=h
theorem yy45 {P:Prop} (h:P:=by
 conv=>whnf
 repeat refine sG ?_
 refine hQ2 _ _ (zw ?_);refine sF ?_;refine hQ _ _ ?_;conv=>whnf
 exact ⟨⟨(0+1,acc),by dsimp only;omega,by dsimp only;rw [zy13] at i4;omega,i3⟩,(zcu (pK9 [(900,some 900)])),by dsimp only;omega⟩):P:=h
theorem yy46 {P:Prop} (h:P:=by
 conv=>whnf
 repeat refine sG ?_
 refine hQ2 _ _ (zw ?_);refine sF ?_;refine hQ _ _ ?_;conv=>whnf
 exact ⟨⟨(0+1,acc),by dsimp only;omega,by dsimp only;rw [zy13] at i4;omega,i3⟩,(zcu (zhe [(900,some 900)])),by dsimp only;omega⟩):P:=h
theorem yy47 {P:Prop} (h:P:=by
 conv=>whnf
 repeat refine sG ?_
 refine hQ2 _ _ (zw ?_);refine sF ?_;refine hQ _ _ ?_;conv=>whnf
 exact ⟨⟨(1+1,acc),by dsimp only;omega,by dsimp only;rw [zy13] at i4;omega,i3⟩,(zcu (zhe [(900,some 900)])),by dsimp only;omega⟩):P:=h
theorem yy62 {P:Prop} (h:P:=by
 refine hQ2 _ _ (zw ?_);exact ⟨⟨((t::(A++B.take r),B.drop r),n,acc),by rw [i1];simp,by simp;omega,by simp;omega,by rw [<- i3,hP];simp⟩,(zbu (zhe [(900,some 900)]) zz6),by simp;omega⟩):P:=h
theorem yy13 {P:Prop} (h:P:=by
 refine zig [3] ?_ ?_ ?_
 . kernel_rfl
 . refine ⟨?_,trivial⟩
   refine And.intro trivial ?_;refine And.intro trivial ?_;refine And.intro ?_ trivial;(conv=>whnf);refine And.intro ?_ ?_
   . conv=>whnf
   refine And.intro ?_ trivial;(conv=>whnf)
   all_goals first | rfl | trace_state
 (conv=>whnf);refine zal [(0,some 900),(1,some 901),(2,some 902),(3,some 903),(4,some 904),(5,some 905),(6,some 970)] rfl rfl trivial rfl rfl ⟨⟨rfl,.inl ⟨900,rfl,rfl⟩⟩,⟨rfl,.inl ⟨901,rfl,rfl⟩⟩,⟨rfl,.inl ⟨902,rfl,rfl⟩⟩,⟨rfl,.inl ⟨903,rfl,?_⟩⟩,⟨rfl,.inl ⟨904,rfl,rfl⟩⟩,⟨rfl,.inl ⟨905,rfl,rfl⟩⟩,⟨rfl,.inl ⟨970,rfl,?_⟩⟩,trivial⟩
 . exact zaq (by rw [zy7,you,hN,h])
 . exact zaq zz79):P:=h
theorem yy25 {P:Prop} (h:P:=by
 refine sF ?_;exact ⟨⟨(A++[p],B),zan h⟩,(zcl ((2,some 2)::((16,some 16)::((14,some 14)::(pJ7 [])))) zz8),by simp⟩):P:=h
theorem yy26 {P:Prop} (h:P:=by
 refine sF ?_;exact ⟨⟨(A++[p],B),zan h⟩,(zcl ((2,some 2)::((16,some 16)::((14,some 14)::(pJ8 [])))) zz8),by simp⟩):P:=h
theorem yy64 {P:Prop} (h:P:=by
 refine zak (a:=A.map (zgo t N)) (b:=B) (s:=p) rfl zz4 (zw ?_);refine sF ?_;exact ⟨⟨(A++[p],B),zan h⟩,(zcl ((2,some 2)::((16,some 16)::((14,some 14)::(pJ7 [])))) zz10),by simp⟩):P:=h
theorem yy65 {P:Prop} (h:P:=by
 refine zak (a:=A.map (zgo t N)) (b:=B) (s:=p) rfl zz4 (zw ?_);refine sF ?_;exact ⟨⟨(A++[p],B),zan h⟩,(zcl ((2,some 2)::((16,some 16)::((14,some 14)::(pJ8 [])))) zz10),by simp⟩):P:=h
theorem yy23 {P:Prop} (h:P:=by
 refine sT ?_;refine zaa (c:=((out.map zbp.row).length+1)*200<=140737488355328) om (zw ?_);refine sF ?_;exact ⟨⟨_,hnx⟩,(zcl [(6,some 6),(900,some 900),(901,some 115),(902,some 902)] zz21),by simp⟩):P:=h
theorem yy37 {P:Prop} (h:P:=by
 (repeat' (first | refine sT ?_ | refine sN ?_))
 refine sO ?_;refine zdj s.path.toNat zz0 zz0 (zw ?_);refine sR ?_;refine sO ?_;refine zdj s.path.toNat zz0 zz0 (zw ?_);refine sD ?_;refine sN ?_;refine sF ?_;exact ⟨⟨_,hnx⟩,(zcl ((6,some 6)::(pJ3 [])) zz27),by simp⟩):P:=h
theorem yy43 {P:Prop} (h:P:=by
 (refine zar [(0,46)]  ?_;(conv=>whnf);refine dO (zcy l hl) ?_)
 exact zal [(0,some 46),(1,some 900),(2,none)] rfl rfl trivial rfl rfl ⟨⟨rfl,.inl ⟨46,rfl,rfl⟩⟩,⟨rfl,.inl ⟨900,rfl,rfl⟩⟩,⟨rfl,.inr ⟨rfl,rfl⟩⟩,trivial⟩):P:=h
theorem yy85 {P:Prop} (h:P:=by
 refine sT ?_;refine sF ?_;exact ⟨⟨(a++[s],b),zan h⟩,(zcl [(900,some 900),(901,some 901),(903,some 903)] zz37),by simp⟩):P:=h
theorem yy3 {P:Prop} (h:P:=by
 (refine zac [] [(1000,932)] [(0,960)] ?_;(conv=>whnf);refine dG (Sco.zem t.out t.cum zz86) ?_)
 cases mv with
 | false =>
  rw [show zfy false t=t from zy0 (fun h=>absurd h.1 (by decide))] at hT;subst hT;(conv=>whnf)
  (refine zac [] [(1000,5),(1001,930),(1002,931),(1003,932),(1004,933),(1005,934),(1006,935)] [(0,980),(1,981),(2,982),(3,983),(4,984),(5,985)] ?_;(conv=>whnf);refine dG (zen t (hft)) ?_ ⟨rfl,rfl,rfl,⟨zz1,⟨zz1,⟨zz1,⟨zz1,⟨zz1,⟨zz1,⟨zz1,trivial⟩⟩⟩⟩⟩⟩⟩,⟨⟨rfl,rfl⟩,⟨⟨rfl,rfl⟩,⟨⟨rfl,rfl⟩,⟨⟨rfl,rfl⟩,⟨⟨rfl,rfl⟩,⟨⟨rfl,rfl⟩,trivial⟩⟩⟩⟩⟩⟩,rfl,rfl,rfl⟩)
  refine zal [(0,some 980),(1,some 981),(2,some 982),(3,some 983),(4,some 984),(5,some 985)] rfl rfl trivial rfl rfl ⟨⟨rfl,.inl ⟨980,rfl,rfl⟩⟩,⟨rfl,.inl ⟨981,rfl,rfl⟩⟩,⟨rfl,.inl ⟨982,rfl,rfl⟩⟩,⟨rfl,.inl ⟨983,rfl,rfl⟩⟩,⟨rfl,.inl ⟨984,rfl,rfl⟩⟩,⟨rfl,.inl ⟨985,rfl,rfl⟩⟩,trivial⟩
 | true =>
  (conv=>whnf);by_cases e1:(Sco.zez t.out t.cum).1>t.cum
  case pos =>
   rw [show zfy true t={t with forward:=true} from zy1 ⟨rfl,e1⟩] at hT;subst hT;rw [show decide ((Sco.zez t.out t.cum).1>t.cum)=true from zy19 e1];(conv=>whnf)
   (refine zac [] [(1000,5),(1001,930),(1002,931),(1003,932),(1004,933),(1005,934),(1006,935)] [(0,980),(1,981),(2,982),(3,983),(4,984),(5,985)] ?_;(conv=>whnf);refine dG (zen ({t with forward:=true}:zab) ((Fit.fwd hft))) ?_ ⟨rfl,rfl,rfl,⟨zz1,⟨zz1,⟨zz1,⟨zz1,⟨zz1,⟨zz1,⟨zz1,trivial⟩⟩⟩⟩⟩⟩⟩,⟨⟨rfl,rfl⟩,⟨⟨rfl,rfl⟩,⟨⟨rfl,rfl⟩,⟨⟨rfl,rfl⟩,⟨⟨rfl,rfl⟩,⟨⟨rfl,rfl⟩,trivial⟩⟩⟩⟩⟩⟩,rfl,rfl,rfl⟩)
   refine zal [(0,some 980),(1,some 981),(2,some 982),(3,some 983),(4,some 984),(5,some 985)] rfl rfl trivial rfl rfl ⟨⟨rfl,.inl ⟨980,rfl,rfl⟩⟩,⟨rfl,.inl ⟨981,rfl,rfl⟩⟩,⟨rfl,.inl ⟨982,rfl,rfl⟩⟩,⟨rfl,.inl ⟨983,rfl,rfl⟩⟩,⟨rfl,.inl ⟨984,rfl,rfl⟩⟩,⟨rfl,.inl ⟨985,rfl,rfl⟩⟩,trivial⟩
  case neg =>
   rw [show zfy true t=t from zy0 (fun h=>e1 h.2)] at hT;subst hT;rw [show decide ((Sco.zez t.out t.cum).1>t.cum)=false from zy30 e1];(conv=>whnf)
   (refine zac [] [(1000,5),(1001,930),(1002,931),(1003,932),(1004,933),(1005,934),(1006,935)] [(0,980),(1,981),(2,982),(3,983),(4,984),(5,985)] ?_;(conv=>whnf);refine dG (zen t (hft)) ?_ ⟨rfl,rfl,rfl,⟨zz1,⟨zz1,⟨zz1,⟨zz1,⟨zz1,⟨zz1,⟨zz1,trivial⟩⟩⟩⟩⟩⟩⟩,⟨⟨rfl,rfl⟩,⟨⟨rfl,rfl⟩,⟨⟨rfl,rfl⟩,⟨⟨rfl,rfl⟩,⟨⟨rfl,rfl⟩,⟨⟨rfl,rfl⟩,trivial⟩⟩⟩⟩⟩⟩,rfl,rfl,rfl⟩)
   refine zal [(0,some 980),(1,some 981),(2,some 982),(3,some 983),(4,some 984),(5,some 985)] rfl rfl trivial rfl rfl ⟨⟨rfl,.inl ⟨980,rfl,rfl⟩⟩,⟨rfl,.inl ⟨981,rfl,rfl⟩⟩,⟨rfl,.inl ⟨982,rfl,rfl⟩⟩,⟨rfl,.inl ⟨983,rfl,rfl⟩⟩,⟨rfl,.inl ⟨984,rfl,rfl⟩⟩,⟨rfl,.inl ⟨985,rfl,rfl⟩⟩,trivial⟩):P:=h
theorem yy4 {P:Prop} (h:P:=by
 refine zal [(0,some 980),(1,some 981),(2,some 982),(3,some 983),(4,some 984),(5,some 985)] rfl rfl trivial rfl rfl ⟨⟨rfl,.inl ⟨980,rfl,rfl⟩⟩,⟨rfl,.inl ⟨981,rfl,rfl⟩⟩,⟨rfl,.inl ⟨982,rfl,rfl⟩⟩,⟨rfl,.inl ⟨983,rfl,rfl⟩⟩,⟨rfl,.inl ⟨984,rfl,rfl⟩⟩,⟨rfl,.inl ⟨985,rfl,rfl⟩⟩,trivial⟩):P:=h
theorem yy29 {P:Prop} (h:P:=by
 (conv=>whnf);exact zal [(0,some 20),(1,some 21),(2,some 22),(3,some 23),(4,some 24),(5,some 25)] rfl rfl trivial rfl rfl ⟨⟨rfl,.inl ⟨20,rfl,rfl⟩⟩,⟨rfl,.inl ⟨21,rfl,rfl⟩⟩,⟨rfl,.inl ⟨22,rfl,rfl⟩⟩,⟨rfl,.inl ⟨23,rfl,rfl⟩⟩,⟨rfl,.inl ⟨24,rfl,rfl⟩⟩,⟨rfl,.inl ⟨25,rfl,rfl⟩⟩,trivial⟩):P:=h
theorem yy79 {P:Prop} (h:P:=by
 split
 . obtain ⟨k,hk⟩:∃ k:Nat,m.id=k:=⟨m.id.toNat,by omega⟩
   rw [hk];exact ⟨zyl h zz0,by rw [zfe,zy26]⟩
 . exact ⟨h,rfl⟩):P:=h
theorem yy66 {P:Prop} (h:P:=by
 exact ⟨by rw [g2];exact q.path0,by rw [g2];exact q.path1,by rw [g3];exact q.id0,by rw [g3];exact q.id1,by rw [g4];exact q.zax,by rw [g4];exact q.zbs,by rw [g4];exact q.data⟩):P:=h
theorem yy91 {P:Prop} (h:P:=by
 try refine sG ?_
 rw [hjv];refine zal [(0,none)] rfl rfl trivial rfl rfl ⟨⟨rfl,.inr ⟨rfl,rfl⟩⟩,trivial⟩):P:=h
theorem yy94 {P:Prop} (h:P:=by
 intro hlt;have:=zy140 (ynf n) l;rw [show l.dropWhile (ynf n)=t::r from ha] at this;simp [ynf] at this;omega):P:=h
theorem yy36 {P:Prop} (h:P:=by
 refine zal [(0,some 24)] rfl rfl trivial rfl rfl ⟨⟨rfl,.inl ⟨24,rfl,rfl⟩⟩,trivial⟩):P:=h
theorem yy39 {P:Prop} (h:P:=by
 (conv=>whnf);rw [zja,zy1 he];refine zal [(0,some 84)] rfl rfl trivial rfl rfl ⟨⟨rfl,.inl ⟨84,rfl,?_⟩⟩,trivial⟩;exact zwx zz71):P:=h
theorem yy90 {P:Prop} (h:P:=by
 subst hu;refine zal [(0,some 31)] rfl rfl trivial rfl rfl ⟨⟨rfl,.inl ⟨31,rfl,?_⟩⟩,trivial⟩;exact zwx h):P:=h
theorem yy15 {P:Prop} (h:P:=by
 (conv=>whnf);refine ⟨{x:List zaw×List zaw // r.pieces=x.1++x.2},fun | ⟨(A,B),_⟩=>hs 21 [(3,i64 (tot A:Nat)),(7,pieces r.pieces),(8,i64 r.pieces.length),(9,i64 A.length)] [],fun x=>x.1.2.length,⟨([],r.pieces),rfl⟩,?_,?_⟩
 . exact (zdi [])
 rintro ⟨⟨A,B⟩,h⟩;dsimp only at h;have hl:r.pieces.length=A.length+B.length:=by rw [h];simp
 have ht:tot r.pieces=tot A+tot B:=by rw [h,znn]
 (conv=>whnf);cases B with
 | cons p B =>
  rw [zy6] at hl;rw [zeb] at ht;refine sT ?_;refine zak h rfl (zw ?_);refine sF ?_;refine sF ?_;exact ⟨⟨(A++[p],B),by rw [h];simp⟩,(zcl [] zz41),by simp⟩
 | nil =>
  rw [zy13] at hl;rw [zy7] at h;refine sN ?_;rw [h]):P:=h
theorem yy55 {P:Prop} (h:P:=by
 (exact zby (pK5 [(0,some 910),(1,some 911),(2,some 912),(3,some 913)]))):P:=h
theorem yy75 {P:Prop} (h:P:=by
 (exact zby (pK5 [(0,some 1001),(1,some 1002),(2,some 1003),(3,some 1004)]))):P:=h
namespace Go.HL
namespace Snd
open Ser
theorem yvj (id:Int) (s:zab) (m:zag):(zef id s m).out.length=s.out.length+(if m.id=id/\m.parts>0 then 1 else 0):=by
 unfold zef;split<;>simp
theorem yiw (id:Int):∀ (q:List zag) (s:zab),(q.foldl (zef id) s).out.length+(q.filter fun m=>decide (m.id≠id)).length<=s.out.length+q.length
 | [],s=>by simp
 | m::q,s=>by
  have h1:=yvj id s m;have h2:=yiw id q (zef id s m);rw [zy56,zy47,zy6];by_cases c:m.id=id
  . simp [c] at h1 h2 ⊢;split at h1<;>omega
  . simp [c] at h1 h2 ⊢;omega
theorem yir (id:Int):∀ (q:List zag) (s:zab),∀ x∈(q.foldl (zef id) s).out,x∈s.out\/x.id=id
 | [],s,x,h=>.inl h
 | m::q,s,x,h=>by
  rcases yir id q (zef id s m) x h with h | h
  . unfold zef at h
    split at h
    . rename_i c
      rcases zy11.1 h with h | h
      . exact .inl h
      . rw [zy9] at h;subst h;exact .inr c.1
    . exact .inl h
  . exact .inr h
structure yic (s:zab):Prop where
 fit:Fit s
 sum:s.out.length+s.queue.length<2 ^ 30
 qid:∀ m∈s.queue,0<=m.id/\m.id<s.fates.length
 xid:∀ x∈s.out,0<=x.id/\x.id<s.fates.length
structure Rest (s t:zab):Prop where
 config:t.config=s.config
 clock:t.clock=s.clock
 had:t.sched.had=s.sched.had
 paths:t.paths.length=s.paths.length
 cum:t.cum=s.cum
 room:t.room=s.room
 mids:t.mids=s.mids
 fates:t.fates.length=s.fates.length
 sum:t.out.length+t.queue.length<=s.out.length+s.queue.length
theorem Rest.refl (s:zab):Rest s s:=⟨rfl,rfl,rfl,rfl,rfl,rfl,rfl,rfl,zy25 _⟩
theorem Rest.trans {a b c:zab} (h:Rest a b) (k:Rest b c):Rest a c:=⟨k.config.trans h.config,k.clock.trans h.clock,k.had.trans h.had,k.paths.trans h.paths,k.cum.trans h.cum,k.room.trans h.room,k.mids.trans h.mids,k.fates.trans h.fates,zy84 k.sum h.sum⟩
theorem zhq (s:zab) (id:Nat):Rest s (zev s id)/\Sco.total (zev s id).out=Sco.total s.out/\(∀ m∈(zev s id).queue,m∈s.queue)/\(∀ x∈(zev s id).out,x.id=id\/∃ y∈s.out,y.id=x.id):=by
 obtain ⟨o,n,h1,h2,h3⟩:=ypw s id s.queue;have hs:=yiw id s.queue {s with fates:=s.fates.set id 3};have hm:=yir id s.queue {s with fates:=s.fates.set id 3};rw [h1] at hs hm;have hg:zev s id=zei {(zje s id o n) with queue:=s.queue.filter fun m=>decide (m.id≠id),sched:=if s.sched.hand=id then {s.sched with hand:=-1} else s.sched,out:=o.map (Sco.zhb id),forward:=true}:=by
  show zei {(s.queue.foldl (zef id) {s with fates:=s.fates.set id 3}) with queue:=s.queue.filter fun m=>decide (m.id≠id),sched:=if s.sched.hand=id then {s.sched with hand:=-1} else s.sched,out:=(s.queue.foldl (zef id) {s with fates:=s.fates.set id 3}).out.map (Sco.zhb id),forward:=true}=_;rw [h1];rfl
 have hid:∀ y:zbp,(Sco.zhb id y).id=y.id:=fun y=>by unfold Sco.zhb;split<;>rfl
 rw [hg];refine ⟨⟨rfl,rfl,?_,?_,rfl,rfl,rfl,?_,?_⟩,?_,?_,?_⟩
 . show (if s.sched.hand=id then {s.sched with hand:=-1} else s.sched:zho).had=_;split<;>rfl
 . show (s.paths.mapIdx _).length=_;simp
 . show (s.fates.set id 3).length=_;simp
 . show (o.map (Sco.zhb id)).length+_<=_
   rw [zy3];exact hs
 . show Sco.total (o.map (Sco.zhb id))=_
   rw [zjg,h3]
 . intro m h;exact (zy40.1 h).1
 . intro x h
   obtain ⟨y,hy,rfl⟩:=zy18.1 h;rcases hm y hy with h | h
   . exact .inr ⟨y,h,(hid y).symm⟩
   . exact .inl ((hid y).trans h)
theorem zyk {s:zab} (h:yic s) {id:Nat} (hid:id<s.fates.length):yic (zev s id):=by
 obtain ⟨r,h1,h2,h3⟩:=zhq s id;obtain ⟨⟨f1,f2,f3,f4,f5,f6,f7⟩,g2,g3,g4⟩:=h;have hs:=r.sum;have hq:(zev s id).queue.length<=s.queue.length:=by
  have:(zev s id).queue=s.queue.filter fun m:zag=>decide (m.id≠(id:Int)):=rfl
  rw [this];exact zy55 _ _
 refine ⟨⟨by omega,by rw [r.had];exact f2,⟨by omega,by rw [h1];exact f3.bytes⟩,by rw [r.paths];exact f4,by rw [r.mids];exact f5,by rw [r.fates];exact f6,fun m hm=>f7 m (h2 m hm)⟩,by omega,fun m hm=>by rw [r.fates];exact g3 m (h2 m hm),fun x hx=>?_⟩;rw [r.fates];rcases h3 x hx with e | ⟨y,hy,e⟩
 . rw [e];omega
 . rw [<- e];exact g4 y hy
theorem zyc {s:zab} (h:yic s) {m:zag} (hm:0<=m.id/\m.id<s.fates.length):yic (zju s m)/\Rest s (zju s m):=by
 unfold zju;split
 . obtain ⟨k,hk⟩:∃ k:Nat,m.id=k:=⟨m.id.toNat,by omega⟩
   rw [hk];exact ⟨zyk h zz0,(zhq s k).1⟩
 . exact ⟨h,Rest.refl s⟩
theorem zye {s:zab} (h:yic s) {x:zbp} (hm:0<=x.id/\x.id<s.fates.length):yic (zhk s x)/\Rest s (zhk s x):=by
 unfold zhk;split
 . obtain ⟨k,hk⟩:∃ k:Nat,x.id=k:=⟨x.id.toNat,by omega⟩
   rw [hk];exact ⟨zyk h zz0,(zhq s k).1⟩
 . exact ⟨h,Rest.refl s⟩
theorem yej (s:zab)  (hs:yic s):zao Tryz.prog 93 [.ptr 1000 0] (lk .free (pH3 s )) (.tup []) (lk .free (pD3 (expire s) )):=by
 have hs':=hs;obtain ⟨⟨h1,h2,h3,h4,h5,h6,h7⟩,g2,g3,g4⟩:=hs;generalize hE:expire s=E;refine zam mixed Tryz.func93 zz5 [1000,1001,1002,1003,1004,1005,1006,1007] zbh ?_;(conv=>whnf)
 (refine zac [] [(1000,1001)] [(0,11)] ?_;(conv=>whnf);refine dG (yyd s.queue zz0) ?_)
 refine ⟨{x:(List zag×List zag)×zab // s.queue=x.1.1++x.1.2/\x.1.1.foldl zju s=x.2/\yic x.2/\Rest s x.2},
  fun | ⟨((A,B),t),_⟩=>hsP [1000,1001,1002,1003,1004,1005,1006,1007] 85 [(0,.ptr 1000 0),(11,.own 11),(12,i64 s.queue.length),(13,i64 A.length)] (xev t  900 901 902 903 904 905 1007 [(1001,.dead),(1002,.dead),(1003,.dead),(1004,.dead),(1005,.dead),(1006,.dead),(11,xfo s.queue)]),fun x=>x.1.1.2.length,⟨(([],s.queue),s),rfl,rfl,hs',Rest.refl s⟩,?_,?_⟩
 . exact (zcu (pK8 ((900,some 1001)::(901,some 1002)::(902,some 1003)::(903,some 1004)::(904,some 1005)::(905,some 1006)::[(11,some 11)])))
 rintro ⟨⟨⟨A,B⟩,t⟩,k1,k2,k3,k4⟩;dsimp only at k1 k2 k3 k4;refine zgh fun Q hQ=>?_
 (conv=>whnf);cases B with
 | cons m B =>
  have hz:=zbz k1;have zdc:(A++[m]).foldl zju s=zju t m:=by rw [zy93,k2];rfl
  have hm:=g3 m (zkn k1);have ht:=k4.fates;obtain ⟨id,hid⟩:∃ k:Nat,m.id=k:=⟨m.id.toNat,by omega⟩
  obtain ⟨kn,kr⟩:=zyc k3 (m:=m) zz0;refine sT ?_;refine sO ?_;refine zak k1 rfl (zw ?_)
  (refine zac [] [(1000,1000),(1001,900),(1002,901),(1003,902),(1004,903),(1005,904),(1006,905),(1007,1007)] [] ?_;(conv=>whnf);refine dG (yer t  m.came m.message.life) ?_)
  cases ho:old t.clock m.came m.message.life with
  | true =>
   rw [zju,zy1 ho] at zdc kn kr;have pg:=zum t  id k3.fit zz0 zz80;exact yy19
  | false =>
   exact yy58
 | nil =>
  have hz:=zco k1;rw [zy7] at k1;rw [<- k1] at k2;have hE2:t.out.foldl zhk t=E:=by rw [<- hE,expire,k2]
  have ko:=k3.sum;refine sN ?_;refine hQ _ _ ?_;conv=>whnf
  (refine zac [] [(1000,902)] [(0,34)] ?_;(conv=>whnf);refine dG (yye t.out zz0) ?_)
  refine ⟨{x:(List zbp×List zbp)×zab // t.out=x.1.1++x.1.2/\x.1.1.foldl zhk t=x.2/\yic x.2/\Rest t x.2},
   fun | ⟨((A,B),u),_⟩=>hsP [1000,1001,1002,1003,1004,1005,1006,1007] 85 [(0,.ptr 1000 0),(34,.own 34),(35,i64 t.out.length),(36,i64 A.length)] (xev u  900 901 902 903 904 905 1007 [(1001,.dead),(1002,.dead),(1003,.dead),(1004,.dead),(1005,.dead),(1006,.dead),(34,xgg t.out)]),fun x=>x.1.1.2.length,⟨(([],t.out),t),rfl,rfl,k3,Rest.refl t⟩,?_,?_⟩
  . exact (zcu (pK8 (pJ6 [(34,some 34)])))
  have g4:=k3.xid;clear hs' g3 g2 k4 k2 k1 hE hQ Q;rintro ⟨⟨⟨A,B⟩,u⟩,k1,k2,k3,k4⟩;dsimp only at k1 k2 k3 k4;refine zgh fun Q hQ=>?_
  (conv=>whnf);cases B with
  | cons x B =>
   have hz:=zbz k1;have zdc:(A++[x]).foldl zhk t=zhk u x:=by rw [zy93,k2];rfl
   have hm:=g4 x (zkn k1);have ht:=k4.fates;obtain ⟨id,hid⟩:∃ k:Nat,x.id=k:=⟨x.id.toNat,by omega⟩
   obtain ⟨kn,kr⟩:=zye k3 (x:=x) zz0;have hidl:id<u.fates.length:=by omega
   have pg:=zum u  id k3.fit hidl zz80;rw [<- hid] at pg;obtain ⟨f,hf⟩:∃ f,u.fates[id]?=some f:=⟨_,zy2 hidl⟩
   have hdue:yyg u x=(decide (f=1)&&(decide (x.state≠2)&&(old u.clock x.came x.life||(decide (x.state=3)&&(decide (x.tries>0)&&decide (x.times>x.tries)))))):=by
    unfold yyg;rw [hid,zy31,hf];rfl
   refine sT ?_;refine sO ?_;refine zak k1 rfl (zw ?_);refine sOm ?_;refine zaj hf zz0 (zw ?_);by_cases d1:f=1
   case neg =>
    refine zaf ?_ ?_
    . simpa using d1
    (conv=>whnf);refine sD ?_
    repeat refine sG ?_
    refine sF ?_;refine hQ _ _ ?_;conv=>whnf
    rw [zhk,zy0 (by rw [hdue];simp [d1])] at zdc;exact yy10
   refine zai ?_ ?_
   . simpa using d1
   (conv=>whnf);by_cases d2:x.state=2
   case pos =>
    refine zaf ?_ ?_
    . simpa using d2
    (conv=>whnf);refine sD ?_
    repeat refine sG ?_
    refine sF ?_;refine hQ _ _ ?_;conv=>whnf
    rw [zhk,zy0 (by rw [hdue];simp [d1,d2])] at zdc;exact yy10
   refine zai ?_ ?_
   . simpa using d2
   conv=>whnf
   (refine zac [] [(1000,1000),(1001,900),(1002,901),(1003,902),(1004,903),(1005,904),(1006,905),(1007,1007)] [] ?_;(conv=>whnf);refine dG (yer u  x.came x.life) ?_)
   exact yy6
  | nil =>
   exact yy48
theorem yek (s:zab)  (hs:yic s):zao Tryz.prog 93 [.ptr 1000 0] (lk .free (pH4 s )) (.tup []) (lk .free (pD4 (expire s) )):=by
 have hs':=hs;obtain ⟨⟨h1,h2,h3,h4,h5,h6,h7⟩,g2,g3,g4⟩:=hs;generalize hE:expire s=E;refine zam mixed Tryz.func93 zz5 [1000,1001,1002,1003,1004,1005,1006,1007] zbh ?_;(conv=>whnf)
 (refine zac [] [(1000,1001)] [(0,11)] ?_;(conv=>whnf);refine dG (yyd s.queue zz0) ?_)
 refine ⟨{x:(List zag×List zag)×zab // s.queue=x.1.1++x.1.2/\x.1.1.foldl zju s=x.2/\yic x.2/\Rest s x.2},
  fun | ⟨((A,B),t),_⟩=>hsP [1000,1001,1002,1003,1004,1005,1006,1007] 85 [(0,.ptr 1000 0),(11,.own 11),(12,i64 s.queue.length),(13,i64 A.length)] (xew t  900 901 902 903 904 905 1007 [(1001,.dead),(1002,.dead),(1003,.dead),(1004,.dead),(1005,.dead),(1006,.dead),(11,xfo s.queue)]),fun x=>x.1.1.2.length,⟨(([],s.queue),s),rfl,rfl,hs',Rest.refl s⟩,?_,?_⟩
 . exact (zcu (pK8 ((900,some 1001)::(901,some 1002)::(902,some 1003)::(903,some 1004)::(904,some 1005)::(905,some 1006)::[(11,some 11)])))
 rintro ⟨⟨⟨A,B⟩,t⟩,k1,k2,k3,k4⟩;dsimp only at k1 k2 k3 k4;refine zgh fun Q hQ=>?_
 (conv=>whnf);cases B with
 | cons m B =>
  have hz:=zbz k1;have zdc:(A++[m]).foldl zju s=zju t m:=by rw [zy93,k2];rfl
  have hm:=g3 m (zkn k1);have ht:=k4.fates;obtain ⟨id,hid⟩:∃ k:Nat,m.id=k:=⟨m.id.toNat,by omega⟩
  obtain ⟨kn,kr⟩:=zyc k3 (m:=m) zz0;refine sT ?_;refine sO ?_;refine zak k1 rfl (zw ?_)
  (refine zac [] [(1000,1000),(1001,900),(1002,901),(1003,902),(1004,903),(1005,904),(1006,905),(1007,1007)] [] ?_;(conv=>whnf);refine dG (yet t  m.came m.message.life) ?_)
  cases ho:old t.clock m.came m.message.life with
  | true =>
   rw [zju,zy1 ho] at zdc kn kr;have pg:=zun t  id k3.fit zz0 zz80;exact yy19
  | false =>
   exact yy58
 | nil =>
  have hz:=zco k1;rw [zy7] at k1;rw [<- k1] at k2;have hE2:t.out.foldl zhk t=E:=by rw [<- hE,expire,k2]
  have ko:=k3.sum;refine sN ?_;refine hQ _ _ ?_;conv=>whnf
  (refine zac [] [(1000,902)] [(0,34)] ?_;(conv=>whnf);refine dG (yye t.out zz0) ?_)
  refine ⟨{x:(List zbp×List zbp)×zab // t.out=x.1.1++x.1.2/\x.1.1.foldl zhk t=x.2/\yic x.2/\Rest t x.2},
   fun | ⟨((A,B),u),_⟩=>hsP [1000,1001,1002,1003,1004,1005,1006,1007] 85 [(0,.ptr 1000 0),(34,.own 34),(35,i64 t.out.length),(36,i64 A.length)] (xew u  900 901 902 903 904 905 1007 [(1001,.dead),(1002,.dead),(1003,.dead),(1004,.dead),(1005,.dead),(1006,.dead),(34,xgg t.out)]),fun x=>x.1.1.2.length,⟨(([],t.out),t),rfl,rfl,k3,Rest.refl t⟩,?_,?_⟩
  . exact (zcu (pK8 (pJ6 [(34,some 34)])))
  have g4:=k3.xid;clear hs' g3 g2 k4 k2 k1 hE hQ Q;rintro ⟨⟨⟨A,B⟩,u⟩,k1,k2,k3,k4⟩;dsimp only at k1 k2 k3 k4;refine zgh fun Q hQ=>?_
  (conv=>whnf);cases B with
  | cons x B =>
   have hz:=zbz k1;have zdc:(A++[x]).foldl zhk t=zhk u x:=by rw [zy93,k2];rfl
   have hm:=g4 x (zkn k1);have ht:=k4.fates;obtain ⟨id,hid⟩:∃ k:Nat,x.id=k:=⟨x.id.toNat,by omega⟩
   obtain ⟨kn,kr⟩:=zye k3 (x:=x) zz0;have hidl:id<u.fates.length:=by omega
   have pg:=zun u  id k3.fit hidl zz80;rw [<- hid] at pg;obtain ⟨f,hf⟩:∃ f,u.fates[id]?=some f:=⟨_,zy2 hidl⟩
   have hdue:yyg u x=(decide (f=1)&&(decide (x.state≠2)&&(old u.clock x.came x.life||(decide (x.state=3)&&(decide (x.tries>0)&&decide (x.times>x.tries)))))):=by
    unfold yyg;rw [hid,zy31,hf];rfl
   refine sT ?_;refine sO ?_;refine zak k1 rfl (zw ?_);refine sOm ?_;refine zaj hf zz0 (zw ?_);by_cases d1:f=1
   case neg =>
    refine zaf ?_ ?_
    . simpa using d1
    (conv=>whnf);refine sD ?_
    repeat refine sG ?_
    refine sF ?_;refine hQ _ _ ?_;conv=>whnf
    rw [zhk,zy0 (by rw [hdue];simp [d1])] at zdc;exact yy10
   refine zai ?_ ?_
   . simpa using d1
   (conv=>whnf);by_cases d2:x.state=2
   case pos =>
    refine zaf ?_ ?_
    . simpa using d2
    (conv=>whnf);refine sD ?_
    repeat refine sG ?_
    refine sF ?_;refine hQ _ _ ?_;conv=>whnf
    rw [zhk,zy0 (by rw [hdue];simp [d1,d2])] at zdc;exact yy10
   refine zai ?_ ?_
   . simpa using d2
   conv=>whnf
   (refine zac [] [(1000,1000),(1001,900),(1002,901),(1003,902),(1004,903),(1005,904),(1006,905),(1007,1007)] [] ?_;(conv=>whnf);refine dG (yet u  x.came x.life) ?_)
   exact yy6
  | nil =>
   exact yy48
end Snd
namespace Snd
open Ser
def yyu (l:List (List Chunk)):List Chunk:=l[0]?.getD []
def xej (l:List (List Chunk)):List Chunk:=l[1]?.getD []
theorem yax:∀ (l:List Path) (k:Nat),(k=0->0<l.length)->∃ c:Nat,Paths.zfc k l=c/\(c=0\/c<k+l.length)
 | [],k,h=>⟨0,rfl,.inl rfl⟩
 | p::r,k,_=>by
  rw [Paths.zfc];split
  . exact ⟨k,rfl,.inr zz4⟩
  . obtain ⟨c,h1,h2⟩:=yax r (k+1) zz0
    exact ⟨c,h1,by rcases h2 with h2 | h2;exact .inl h2;exact .inr zz3⟩
theorem zdw {s:zab} (h:0<s.paths.length):Paths.zfc 0 s.paths=(choose s:Nat)/\choose s<s.paths.length:=by
 obtain ⟨c,h1,h2⟩:=yax s.paths 0 fun _=>h
 unfold choose;rw [h1];exact ⟨by simp,by rcases h2 with h2 | h2<;>simp<;>omega⟩
def xfg (s:zab):Chunk:=⟨3,tag (Sco.zez s.out s.cum).1,0,0,0,false,false,[],[],0,(Sco.zez s.out s.cum).2⟩
def yoy (s:zab) (k:Nat) (w:Path):zab:={s with forward:=false,paths:=s.paths.set k (zcw s w)}
theorem zwd {s:zab} {o:List (List Chunk)} (h:s.forward=false\/(Sco.zez s.out s.cum).1=s.cum):forward ⟨s,o⟩=⟨s,o⟩:=by rw [forward,zy1 h]
theorem yge {s:zab} {o:List (List Chunk)} {w:Path} {l:List Chunk} (h:¬ (s.forward=false\/(Sco.zez s.out s.cum).1=s.cum)) (ha:s.paths[choose s]?=some w) (hl:o[choose s]?=some l) :
 forward ⟨s,o⟩=⟨yoy s (choose s) w,o.set (choose s) (l++[xfg s])⟩:=by
 rw [forward,zy0 h];simp only [setAt,ha,hl,yoy,xfg]
theorem zxq {s:zab} {w:Path} (h:¬ w.zcw=0):zcw s w=w:=by rw [zcw,zy0 h]
theorem zsp {s:zab} {w:Path} (h:w.zcw=0):zcw s w={w with zcw:=W (s.clock+w.wait)}:=by rw [zcw,zy1 h]
theorem yaa (s:zab) (h3:s.out.length<2 ^ 38) (h4:s.paths.length=1) :
 zao Tryz.prog 94 [.ptr 1000 0] (lk .free (pH3 s)) (.tup [])
  (lk .free (xcy (forward ⟨s,[[]]⟩).s (yyu (forward ⟨s,[[]]⟩).out) 1001 1002 1003 1004 1005 1006 1007 0 [])):=by
 obtain ⟨hch,hch2⟩:=zdw (s:=s) zz0;have hc0:choose s=0:=by omega
 have pc:=Paths.zdy s.paths zz0;rw [hch,hc0] at pc;obtain ⟨w,ha⟩:∃ w,s.paths[0]?=some w:=⟨_,zy2 zz0⟩
 refine zam mixed Tryz.func94 zz5 [1000,1001,1002,1003,1004,1005,1006,1007] zbh ?_;(conv=>whnf)
 (refine zac [] [(1000,1003)] [(0,17)] ?_;(conv=>whnf);refine dG (Sco.zem s.out s.cum h3) ?_)
 refine sD ?_;by_cases c1:s.forward=false
 . rw [zwd (.inl c1)]
   refine zai ?_ ?_
   . simp [c1]
   conv=>whnf
   repeat refine sG ?_
   (exact zby (pK8 [(0,none)]))
 by_cases c2:(Sco.zez s.out s.cum).1=s.cum
 . rw [zwd (.inr c2)]
   refine zaf ?_ ?_
   . simp [c1]
   (conv=>whnf);refine zai ?_ ?_
   . simp [c2]
   conv=>whnf
   repeat refine sG ?_
   (exact zby (pK8 [(0,none)]))
 have hfy:=yge (o:=[[]]) (l:=[]) (w:=w) zz67 (by rw [hc0];exact ha) (by rw [hc0];rfl);rw [hfy,hc0];refine zaf ?_ ?_
 . simp [c1]
 (conv=>whnf);refine zaf ?_ ?_
 . simp [c2]
 conv=>whnf
 repeat refine sG ?_
 (refine cL ?_;refine dL pc ?_)
 refine ⟨0,rfl,by decide,zw ?_⟩
 (refine cL ?_;refine dL (zct _) ?_)
 refine zaa (c:=(1:Nat)*128<=140737488355328) zz5 (zw ?_);refine ⟨0,rfl,by decide,zw ?_⟩;refine sD ?_;refine sOm ?_;refine zaj ha rfl (zw ?_);by_cases c3:w.zcw=0
 case pos =>
  refine zai ?_ ?_
  . simpa using c3
  conv=>whnf
  repeat refine sG ?_
  refine zaj ha rfl (zw ?_);refine sR ?_;refine zaj ha rfl (zw ?_);refine sD ?_
  (exact zcz (pK8 [(0,some 62)]) zz18)
 case neg =>
  refine zaf ?_ ?_
  . simpa using c3
  conv=>whnf
  repeat refine sG ?_
  rw [show (yoy s 0 w)={s with forward:=false} by {unfold yoy;rw [zxq c3,zoo ha]}]
  (exact zby (pK8 [(0,some 62)]))
theorem yab (s:zab) (h3:s.out.length<2 ^ 38) (h4:s.paths.length=2) :
 zao Tryz.prog 94 [.ptr 1000 0] (lk .free (pH4 s)) (.tup [])
  (lk .free (yyz (forward ⟨s,[[],[]]⟩).s (yyu (forward ⟨s,[[],[]]⟩).out) (xej (forward ⟨s,[[],[]]⟩).out) 1001 1002 1003 1004 1005 1006 1007 0 1 [])):=by
 obtain ⟨hch,hch2⟩:=zdw (s:=s) zz0;have hc01:choose s=0\/choose s=1:=by omega
 rcases hc01 with hc0 | hc0
 case inl =>
  have pc:=Paths.zdy s.paths zz0;rw [hch,hc0] at pc;obtain ⟨w,ha⟩:∃ w,s.paths[0]?=some w:=⟨_,zy2 zz0⟩
  refine zam mixed Tryz.func94 zz5 [1000,1001,1002,1003,1004,1005,1006,1007] zbh ?_;(conv=>whnf)
  (refine zac [] [(1000,1003)] [(0,17)] ?_;(conv=>whnf);refine dG (Sco.zem s.out s.cum h3) ?_)
  refine sD ?_;by_cases c1:s.forward=false
  . rw [zwd (.inl c1)]
    exact yy97
  by_cases c2:(Sco.zez s.out s.cum).1=s.cum
  . rw [zwd (.inr c2)]
    exact yy80
  have hfy:=yge (o:=[[],[]]) (l:=[]) (w:=w) zz67 (by rw [hc0];exact ha) (by rw [hc0];rfl);rw [hfy,hc0];refine zaf ?_ ?_
  . simp [c1]
  (conv=>whnf);refine zaf ?_ ?_
  . simp [c2]
  conv=>whnf
  repeat refine sG ?_
  (refine cL ?_;refine dL pc ?_)
  refine ⟨0,rfl,by decide,zw ?_⟩
  (refine cL ?_;refine dL (zct _) ?_)
  refine zaa (c:=(1:Nat)*128<=140737488355328) zz5 (zw ?_);refine ⟨0,rfl,by decide,zw ?_⟩;refine sD ?_;refine sOm ?_;refine zaj ha rfl (zw ?_);by_cases c3:w.zcw=0
  case pos =>
   refine zai ?_ ?_
   . simpa using c3
   conv=>whnf
   repeat refine sG ?_
   refine zaj ha rfl (zw ?_);refine sR ?_;refine zaj ha rfl (zw ?_);refine sD ?_
   (exact zcz (pK8 [(0,some 62),(1,none)]) zz18)
  case neg =>
   refine zaf ?_ ?_
   . simpa using c3
   conv=>whnf
   repeat refine sG ?_
   rw [show (yoy s 0 w)={s with forward:=false} by {unfold yoy;rw [zxq c3,zoo ha]}]
   (exact zby (pK8 [(0,some 62),(1,none)]))
 case inr =>
  have pc:=Paths.zdy s.paths zz0;rw [hch,hc0] at pc;obtain ⟨w,ha⟩:∃ w,s.paths[1]?=some w:=⟨_,zy2 zz0⟩
  refine zam mixed Tryz.func94 zz5 [1000,1001,1002,1003,1004,1005,1006,1007] zbh ?_;(conv=>whnf)
  (refine zac [] [(1000,1003)] [(0,17)] ?_;(conv=>whnf);refine dG (Sco.zem s.out s.cum h3) ?_)
  refine sD ?_;by_cases c1:s.forward=false
  . rw [zwd (.inl c1)]
    exact yy97
  by_cases c2:(Sco.zez s.out s.cum).1=s.cum
  . rw [zwd (.inr c2)]
    exact yy80
  have hfy:=yge (o:=[[],[]]) (l:=[]) (w:=w) zz67 (by rw [hc0];exact ha) (by rw [hc0];rfl);rw [hfy,hc0];refine zaf ?_ ?_
  . simp [c1]
  (conv=>whnf);refine zaf ?_ ?_
  . simp [c2]
  conv=>whnf
  repeat refine sG ?_
  (refine cL ?_;refine dL pc ?_)
  refine ⟨1,rfl,by decide,zw ?_⟩
  (refine cL ?_;refine dL (zct _) ?_)
  refine zaa (c:=(1:Nat)*128<=140737488355328) zz5 (zw ?_);refine ⟨1,rfl,by decide,zw ?_⟩;refine sD ?_;refine sOm ?_;refine zaj ha rfl (zw ?_);by_cases c3:w.zcw=0
  case pos =>
   refine zai ?_ ?_
   . simpa using c3
   conv=>whnf
   repeat refine sG ?_
   refine zaj ha rfl (zw ?_);refine sR ?_;refine zaj ha rfl (zw ?_);refine sD ?_
   (exact zcz (pK8 [(1,some 62),(0,none)]) (by repeat' (first | exact z0 | refine z1 ?_ | refine ⟨?_,?_⟩ | ((exact (zel (f:=Path.row) (y:={w with zcw:=W (s.clock+w.wait)}) rfl).trans (zaq (by rw [show (yoy s 1 w).paths=s.paths.set 1 (zcw s w) from rfl,zsp c3];rfl)))) | exact z2)))
  case neg =>
   refine zaf ?_ ?_
   . simpa using c3
   conv=>whnf
   repeat refine sG ?_
   rw [show (yoy s 1 w)={s with forward:=false} by {unfold yoy;rw [zxq c3,zoo ha]}]
   (exact zby (pK8 [(1,some 62),(0,none)]))
end Snd
namespace Snd
open Ser
theorem zmc {α:Type} (f:α->Nat->α) (p:α) (i:Nat):(List.range (i+1)).foldl f p=f ((List.range i).foldl f p) i:=by
 rw [List.range_succ,zy93];rfl
theorem zrt {s:zab} {o:List (List Chunk)} {i c:Nat} {x:zbp} {w:Path} (hx:s.out[i]?=some x) (hw:s.paths[c]?=some w) (h:¬ (x.state=3/\w.zbd<w.window)):zdf c ⟨s,o⟩ i=⟨s,o⟩:=by
 simp only [zdf,hx,opened,hw];rw [zy0 (by simpa using h)]
theorem znt {s:zab} {o:List (List Chunk)} {i c:Nat} {x:zbp} {w:Path} {l:List Chunk} (hx:s.out[i]?=some x) (hw:s.paths[c]?=some w) (hl:o[c]?=some l) (h:x.state=3/\w.zbd<w.window) :
 zdf c ⟨s,o⟩ i=⟨ybn s i c x w,o.set c (l++[x.chunk])⟩:=by
 simp only [zdf,hx,opened,hw];rw [zy1 (by simpa using h),yyj hx hw hl]
theorem yhm (s:zab) (a:List Chunk) (h3:s.out.length<2 ^ 28) (h4:s.paths.length=1) (ha:a.length<2 ^ 28) :
 zao Tryz.prog 95 [.ptr 1000 0] (lk .free (pH1 s a)) (.tup [])
  (lk .free (xcy (again ⟨s,[a]⟩).s (yyu (again ⟨s,[a]⟩).out) 1001 1002 1003 1004 1005 1006 1007 0 [(1008,.dead)])):=by
 obtain ⟨hch,hch2⟩:=zdw (s:=s) zz0;have hc0:choose s=0:=by omega
 have pc:=Paths.zdy s.paths zz0;rw [hch,hc0] at pc;have hag:again ⟨s,[a]⟩=(List.range s.out.length).foldl (zdf 0) ⟨s,[a]⟩:=by rw [again,hc0]
 generalize again ⟨s,[a]⟩=G at hag ⊢;refine zam mixed Tryz.func95 zz5 [1000,1001,1002,1003,1004,1005,1006,1007,1008] zbh ?_;(conv=>whnf)
 (refine cL ?_;refine dL pc ?_)
 refine ⟨{x:Nat×zab×List Chunk // x.1<=s.out.length/\(List.range x.1).foldl (zdf 0) ⟨s,[a]⟩=⟨x.2.1,[x.2.2]⟩/\x.2.1.out.length=s.out.length/\x.2.1.paths.length=s.paths.length/\x.2.2.length<=a.length+x.1},
  fun | ⟨(i,t,a'),_⟩=>hsP [1000,1001,1002,1003,1004,1005,1006,1007,1008] 51 [(0,.ptr 1000 0),(2,i64 0),(15,i64 s.out.length),(16,i64 i)] (xcy t a' 1001 1002 1003 1004 1005 1006 1007 900 [(1008,.dead)]),fun x=>s.out.length-x.1.1,⟨(0,s,a),by omega,rfl,rfl,rfl,by dsimp only;omega⟩,?_,?_⟩
 . exact (zbu (pK9 [(900,some 1008)]) zz2)
 rintro ⟨⟨i,t,a'⟩,k1,k2,k3,k4,k5⟩;dsimp only at k1 k2 k3 k4 k5;(conv=>whnf);by_cases hi:i<s.out.length
 case pos =>
  obtain ⟨x,hx⟩:∃ x,t.out[i]?=some x:=⟨_,zy2 zz0⟩
  obtain ⟨w,hw⟩:∃ w,t.paths[0]?=some w:=⟨_,zy2 zz0⟩
  have hst:=zmc (zdf 0) ⟨s,[a]⟩ i;rw [k2] at hst;have hno:=zrt (o:=[a']) (c:=0) hx hw;have hyes:=znt (o:=[a']) (c:=0) (l:=a') hx hw rfl;refine sT ?_;refine sO ?_;refine zaj hx rfl (zw ?_);by_cases d1:x.state=3
  case neg =>
   refine zaf ?_ ?_
   . simpa using d1
   conv=>whnf
   repeat refine sG ?_
   refine sF ?_;exact ⟨⟨(i+1,t,a'),by dsimp only;omega,by rw [hst,hno fun h=>d1 h.1],k3,k4,by dsimp only;omega⟩,(zbu (pK9 [(900,some 900)]) zz2),by dsimp only;omega⟩
  refine zai ?_ ?_
  . simpa using d1
  (conv=>whnf);refine sOm ?_;refine zaj hw rfl (zw ?_)
  (refine cL ?_;refine dL (Paths.zjr w) ?_)
  by_cases d2:w.zbd<w.window
  case neg =>
   refine zaf ?_ ?_
   . simpa using d2
   conv=>whnf
   repeat refine sG ?_
   refine sF ?_;exact ⟨⟨(i+1,t,a'),by dsimp only;omega,by rw [hst,hno fun h=>d2 h.2],k3,k4,by dsimp only;omega⟩,(zbu (pK9 [(900,some 900)]) zz2),by dsimp only;omega⟩
  refine zai ?_ ?_
  . simpa using d2
  conv=>whnf
  repeat refine sG ?_
  refine sOm ?_
  (refine zac [] [(1000,1000),(1001,1001),(1002,1002),(1003,1003),(1004,1004),(1005,1005),(1006,1006),(1007,1007),(1008,900)] [(0,920)] ?_;(conv=>whnf);refine dG (znk t a' i x w hx hw zz0) ?_)
  refine sF ?_;exact ⟨⟨(i+1,ybn t i 0 x w,a'++[x.chunk]),by dsimp only;omega,by rw [hst,hyes ⟨d1,d2⟩];rfl,by show (t.out.set i _).length=_;rw [zy26];exact k3,by show (t.paths.set 0 _).length=_;rw [zy26];exact k4,by simp;omega⟩,(zbu (pK9 [(900,some 920)]) zz2),by dsimp only;omega⟩
 case neg =>
  have hin:i=s.out.length:=by omega
  subst hin;refine sN ?_;rw [k2] at hag;subst hag
  (exact zby (pK9 [(0,some 900)]))
theorem yhn (s:zab) (a b:List Chunk) (h3:s.out.length<2 ^ 28) (h4:s.paths.length=2) (ha:a.length+b.length<2 ^ 28) :
 zao Tryz.prog 95 [.ptr 1000 0] (lk .free (pH2 s a b)) (.tup [])
  (lk .free (yyz (again ⟨s,[a,b]⟩).s (yyu (again ⟨s,[a,b]⟩).out) (xej (again ⟨s,[a,b]⟩).out) 1001 1002 1003 1004 1005 1006 1007 0 1 [(1008,.dead),(1009,.dead)])):=by
 obtain ⟨hch,hch2⟩:=zdw (s:=s) zz0;have hc01:choose s=0\/choose s=1:=by omega
 rcases hc01 with hc0 | hc0
 case inl =>
  have pc:=Paths.zdy s.paths zz0;rw [hch,hc0] at pc;have hag:again ⟨s,[a,b]⟩=(List.range s.out.length).foldl (zdf 0) ⟨s,[a,b]⟩:=by rw [again,hc0]
  generalize again ⟨s,[a,b]⟩=G at hag ⊢;refine zam mixed Tryz.func95 zz5 [1000,1001,1002,1003,1004,1005,1006,1007,1008,1009] zbh ?_;(conv=>whnf)
  (refine cL ?_;refine dL pc ?_)
  refine ⟨{x:Nat×zab×List Chunk×List Chunk // x.1<=s.out.length/\(List.range x.1).foldl (zdf 0) ⟨s,[a,b]⟩=⟨x.2.1,[x.2.2.1,x.2.2.2]⟩/\x.2.1.out.length=s.out.length/\x.2.1.paths.length=s.paths.length/\x.2.2.1.length+x.2.2.2.length<=a.length+b.length+x.1},
   fun | ⟨(i,t,a',b'),_⟩=>hsP [1000,1001,1002,1003,1004,1005,1006,1007,1008,1009] 51 [(0,.ptr 1000 0),(2,i64 0),(15,i64 s.out.length),(16,i64 i)] (yyz t a' b' 1001 1002 1003 1004 1005 1006 1007 900 901 [(1008,.dead),(1009,.dead)]),fun x=>s.out.length-x.1.1,⟨(0,s,a,b),by omega,rfl,rfl,rfl,by dsimp only;omega⟩,?_,?_⟩
  . exact (zbu (zhe [(900,some 1008),(901,some 1009)]) zz2)
  rintro ⟨⟨i,t,a',b'⟩,k1,k2,k3,k4,k5⟩;dsimp only at k1 k2 k3 k4 k5;(conv=>whnf);by_cases hi:i<s.out.length
  case pos =>
   obtain ⟨x,hx⟩:∃ x,t.out[i]?=some x:=⟨_,zy2 zz0⟩
   obtain ⟨w,hw⟩:∃ w,t.paths[0]?=some w:=⟨_,zy2 zz0⟩
   have hst:=zmc (zdf 0) ⟨s,[a,b]⟩ i;rw [k2] at hst;have hno:=zrt (o:=[a',b']) (c:=0) hx hw;have hyes:=znt (o:=[a',b']) (c:=0) (l:=a') hx hw rfl;refine sT ?_;refine sO ?_;refine zaj hx rfl (zw ?_);by_cases d1:x.state=3
   case neg =>
    exact yy40
   refine zai ?_ ?_
   . simpa using d1
   (conv=>whnf);refine sOm ?_;refine zaj hw rfl (zw ?_)
   (refine cL ?_;refine dL (Paths.zjr w) ?_)
   by_cases d2:w.zbd<w.window
   case neg =>
    exact yy41
   refine zai ?_ ?_
   . simpa using d2
   conv=>whnf
   repeat refine sG ?_
   refine sOm ?_
   (refine zac [] [(1000,1000),(1001,1001),(1002,1002),(1003,1003),(1004,1004),(1005,1005),(1006,1006),(1007,1007),(1008,900),(1009,901)] [(0,920)] ?_;(conv=>whnf);refine dG (znl t a' b' i x w hx hw zz0) ?_)
   refine sF ?_;exact ⟨⟨(i+1,ybn t i 0 x w,a'++[x.chunk],b'),by dsimp only;omega,by rw [hst,hyes ⟨d1,d2⟩];rfl,by show (t.out.set i _).length=_;rw [zy26];exact k3,by show (t.paths.set 0 _).length=_;rw [zy26];exact k4,by simp;omega⟩,(zbu (zhe ((900,some 920)::[(901,some 901)])) zz2),by dsimp only;omega⟩
  case neg =>
   exact yy84
 case inr =>
  have pc:=Paths.zdy s.paths zz0;rw [hch,hc0] at pc;have hag:again ⟨s,[a,b]⟩=(List.range s.out.length).foldl (zdf 1) ⟨s,[a,b]⟩:=by rw [again,hc0]
  generalize again ⟨s,[a,b]⟩=G at hag ⊢;refine zam mixed Tryz.func95 zz5 [1000,1001,1002,1003,1004,1005,1006,1007,1008,1009] zbh ?_;(conv=>whnf)
  (refine cL ?_;refine dL pc ?_)
  refine ⟨{x:Nat×zab×List Chunk×List Chunk // x.1<=s.out.length/\(List.range x.1).foldl (zdf 1) ⟨s,[a,b]⟩=⟨x.2.1,[x.2.2.1,x.2.2.2]⟩/\x.2.1.out.length=s.out.length/\x.2.1.paths.length=s.paths.length/\x.2.2.1.length+x.2.2.2.length<=a.length+b.length+x.1},
   fun | ⟨(i,t,a',b'),_⟩=>hsP [1000,1001,1002,1003,1004,1005,1006,1007,1008,1009] 51 [(0,.ptr 1000 0),(2,i64 1),(15,i64 s.out.length),(16,i64 i)] (yyz t a' b' 1001 1002 1003 1004 1005 1006 1007 900 901 [(1008,.dead),(1009,.dead)]),fun x=>s.out.length-x.1.1,⟨(0,s,a,b),by omega,rfl,rfl,rfl,by dsimp only;omega⟩,?_,?_⟩
  . exact (zbu (zhe [(900,some 1008),(901,some 1009)]) zz2)
  rintro ⟨⟨i,t,a',b'⟩,k1,k2,k3,k4,k5⟩;dsimp only at k1 k2 k3 k4 k5;(conv=>whnf);by_cases hi:i<s.out.length
  case pos =>
   obtain ⟨x,hx⟩:∃ x,t.out[i]?=some x:=⟨_,zy2 zz0⟩
   obtain ⟨w,hw⟩:∃ w,t.paths[1]?=some w:=⟨_,zy2 zz0⟩
   have hst:=zmc (zdf 1) ⟨s,[a,b]⟩ i;rw [k2] at hst;have hno:=zrt (o:=[a',b']) (c:=1) hx hw;have hyes:=znt (o:=[a',b']) (c:=1) (l:=b') hx hw rfl;refine sT ?_;refine sO ?_;refine zaj hx rfl (zw ?_);by_cases d1:x.state=3
   case neg =>
    exact yy40
   refine zai ?_ ?_
   . simpa using d1
   (conv=>whnf);refine sOm ?_;refine zaj hw rfl (zw ?_)
   (refine cL ?_;refine dL (Paths.zjr w) ?_)
   by_cases d2:w.zbd<w.window
   case neg =>
    exact yy41
   refine zai ?_ ?_
   . simpa using d2
   conv=>whnf
   repeat refine sG ?_
   refine sOm ?_
   (refine zac [] [(1000,1000),(1001,1001),(1002,1002),(1003,1003),(1004,1004),(1005,1005),(1006,1006),(1007,1007),(1008,900),(1009,901)] [(0,920)] ?_;(conv=>whnf);refine dG (znm t a' b' i x w hx hw zz0) ?_)
   refine sF ?_;exact ⟨⟨(i+1,ybn t i 1 x w,a',b'++[x.chunk]),by dsimp only;omega,by rw [hst,hyes ⟨d1,d2⟩];rfl,by show (t.out.set i _).length=_;rw [zy26];exact k3,by show (t.paths.set 1 _).length=_;rw [zy26];exact k4,by simp;omega⟩,(zbu (zhe ((900,some 900)::[(901,some 920)])) zz2),by dsimp only;omega⟩
  case neg =>
   exact yy84
end Snd
theorem zxz {rows ys:List (List PV)} {z:List PV} {i j a k m:Nat} (hij:i<=j) (hj:j<=rows.length) (ha:a=i) (hy:ys=(rows.drop j).take (rows.length-j)) (hk:k=i+ys.length) (hm:m=j-i) (_:i+ys.length+(j-i)=rows.length) :
 zck (zck rows a ys) k (List.replicate m z)=rows.take i++rows.drop j++List.replicate (j-i) z:=by
 subst ha hm;have hy2:ys=rows.drop j:=by rw [hy,zy32 (by simp)]
 have h1:ys.length=rows.length-j:=by rw [hy2];simp
 have h2:(rows.take a).length=a:=by simp;omega
 have h3:zck rows a ys=(rows.take a++ys)++rows.drop k:=by rw [zck,hk]
 have h4:(rows.take a++ys).length=k:=by simp;omega
 rw [zck,h3,zy88 h4,zy29 (by simp only [zy8,zy60,zy99,h2];omega),zy7,hy2]
theorem ywa {rows ys zs:List (List PV)} {a b k:Nat} (hk:k<rows.length) (ha:a=k+1) (hy:ys=rows.drop k) (hb:b=k) (hz:zs.length=1):zck (zck rows a ys) b zs=rows.take k++zs++rows.drop k:=by
 subst ha hy hb;have h1:zck rows (b+1) (rows.drop b)=rows.take (b+1)++rows.drop b:=by
  rw [zck,zy29 (i:=b+1+(rows.drop b).length) (by simp;omega),zy7]
 have h2:(rows.take (b+1)).length=b+1:=by simp;omega
 rw [zck,h1,hz,List.drop_left' h2,zy78 (by omega),List.take_take,Nat.min_eq_left (by omega)]
theorem yvz {rows ys zs:List (List PV)} {z:List PV} {a b k m:Nat} (hk:k<rows.length) (hm:m=rows.length+1-k) (ha:a=k) (hz:zs.length=1) (hb:b=k+1) (hy:ys=rows.drop k) :
 zck (zck (rows.take k++List.replicate m z) a zs) b ys=rows.take k++zs++rows.drop k:=by
 subst hm ha hb hy;have h1:(rows.take a).length=a:=by simp;omega
 have h2:zck (rows.take a++List.replicate (rows.length+1-a) z) a zs=(rows.take a++zs)++(rows.take a++List.replicate (rows.length+1-a) z).drop (a+1):=by
  rw [zck,zy88 h1,hz]
 have h3:(rows.take a++zs).length=a+1:=by simp;omega
 rw [zck,h2,zy88 h3,zy29 (i:=a+1+_) (by simp;omega),zy7]
theorem xgz {α:Type} {f:α->List PV} {v:α} {m:Nat} {l r:List α} (h:0<m):(l.map f++[f v].take m)++r.map f=(l++v::r).map f:=by
 rw [zy32 (by simp;omega),zy41,zy21,zy28];rfl
theorem xer {α:Type} {f:α->List PV} {v:α} {m k:Nat} {l:List α} (h:0<m):(l.map f).take k++[f v].take m++(l.map f).drop k=(l.take k++v::l.drop k).map f:=by
 rw [<- zy121,<- zy106];exact xgz h
def zsu (cmp:Span->Int) (l:List Span) (K:Nat):Bool:=match l[K]? with | some s=>cmp s==0 | none=>false
theorem xca {g:FuncId} {cmp:Span->Int} {n:Int} (hg:∀ m:Span,zao Tryz.prog g [m.hv,i64 n] zae (i64 (cmp m)) zae) (l:List Span) (K:Nat) (hK:K<=l.length) (hm:∀ (i:Nat) (h:i<l.length),cmp l[i]<0↔i<K) (hb:l.length<2 ^ 40) :
 zao Tryz.prog 195 [Ser.zax l,i64 n,.clo g []] zae (.tup [i64 K,zbo (zsu cmp l K)]) zae:=by
 refine zas mixed Tryz.func195 zz5 ?_;(conv=>whnf);refine ⟨{x:Nat×Nat // x.1<=K/\K<=x.2/\x.2<=l.length},fun | ⟨(i,j),_⟩=>hs 49 [(0,Ser.zax l),(1,i64 n),(2,.clo g []),(8,i64 l.length),(9,i64 i),(10,i64 j)] [],fun x=>x.1.2-x.1.1,⟨(0,l.length),by simp,hK,zy25 _⟩,?_,?_⟩
 . exact (zdi [])
 rintro ⟨⟨i,j⟩,h1,h2,h3⟩;dsimp only at h1 h2 h3;(conv=>whnf);by_cases c:i<j
 . have hlt:(i+j) / 2<l.length:=by omega
   refine sT ?_;refine sF ?_;refine zbj (zsl zz0 zz0) (zw ?_);refine zaa zz5 (zw ?_);refine zbj (z':=(((i+j) / 2:Nat):Int)) ?_ ?_
   . show W (((i:Int)+j) / 2)=_
     rw [zbn (by omega) (by omega)];omega
   (conv=>whnf);refine zdj ((i+j) / 2) rfl hlt (zw ?_)
   (refine cZ ?_;refine dL (hg l[(i+j) / 2]) ?_)
   by_cases c2:cmp l[(i+j) / 2]<0
   . have hk:=(hm _ hlt).1 c2
     refine sT ?_;refine sF ?_;exact ⟨⟨((i+j) / 2+1,j),hk,h2,h3⟩,(zdi []),by dsimp only;omega⟩
   . have hk:¬ (i+j) / 2<K:=fun h=>c2 ((hm _ hlt).2 h)
     refine sN ?_;exact ⟨⟨(i,(i+j) / 2),h1,by dsimp only;omega,by dsimp only;omega⟩,(zdi []),by dsimp only;omega⟩
 . have hi:i=K:=by omega
   subst hi;refine sN ?_;by_cases c2:i<l.length
   . refine sT ?_
     refine zdj i rfl c2 (zw ?_)
     (refine cZ ?_;refine dL (hg l[i]) ?_)
     rw [zsu,zy2 c2]
   . refine sN ?_
     rw [zsu,zy42 (by omega)]
theorem ymm (l:List Span) (i j:Nat) (hij:i<=j) (hj:j<=l.length) (hb:l.length<2 ^ 40) :
 zao Tryz.prog 198 [.osl 1000 2 0 (l.map Span.row).length,i64 i,i64 j] (lk .free [(1000,.live (.row 199 2 (l.map Span.row)))])
  (.osl 1000 2 0 (l.length-(j-i))) (lk .free [(1000,.live (.row 199 2 ((l.take i++l.drop j).map Span.row++List.replicate (j-i) [pi 0,pi 0])))]):=by
 refine zam mixed Tryz.func198 zz5 [1000] zbh ?_;have hlr:(l.map Span.row).length=l.length:=by simp
 (conv=>whnf);refine sO ?_;by_cases h:i=j
 . subst h
   refine sT ?_;refine zal [(1000,some 1000)] rfl rfl ⟨rfl,trivial⟩ rfl ?_ ⟨⟨rfl,.inl ⟨1000,rfl,?_⟩⟩,trivial⟩
   . show HV.osl 1000 2 0 (l.length-(i-i))=HV.osl 1000 2 0 (l.map Span.row).length
     rw [hlr,zy90];rfl
   . show zad.live (.row _ 2 (l.map Span.row))=zad.live (.row _ 2 _)
     rw [zy23,zy90,zy135,zy7]
 . refine sN ?_
   refine sO ?_;refine sO ?_;refine ⟨_,rfl,?_,?_⟩
   . rw [hlr];omega
   (conv=>whnf);refine zaa zz3 ?_;(conv=>whnf);refine zbg ?_ ?_
   . kernel_rfl
   (conv=>whnf);refine zaa zz35 ?_;(conv=>whnf);refine zaa zz35 ?_;(conv=>whnf);refine zal [(1000,some 1000)] rfl rfl ⟨rfl,trivial⟩ rfl ?_ ⟨⟨rfl,.inl ⟨1000,rfl,?_⟩⟩,trivial⟩
   . show HV.osl 1000 2 0 _=HV.osl 1000 2 0 _
     congr 1;simp;omega
   . refine (congrArg (fun r=>zad.live (.row _ 2 r)) (zxz (rows:=l.map Span.row) (i:=i) (j:=j) (z:=[pi 0,pi 0]) hij (by rw [hlr];exact hj) ?_ ?_ ?_ ?_ ?_)).trans ?_
     . simp<;>omega
     . simp<;>omega
     . simp<;>omega
     . simp;omega
     . simp;omega
     . rw [zy41,zy121,zy106];rfl
theorem yve (l:List Span) (i j:Nat) (hij:i<=j) (hj:j<=l.length) (hb:l.length<2 ^ 40) :
 zao Tryz.prog 198 [.own 1000,i64 i,i64 j] (lk .free [(1000,.live (.row 199 2 (l.map Span.row)))])
  (.own 0) (lk .free [(1000,.dead),(0,.live (.row 199 2 ((l.take i++l.drop j).map Span.row)))]):=by
 have h:=zjd (d:=0) (L:=[]) (rows:=(l.take i++l.drop j).map Span.row++List.replicate (j-i) [pi 0,pi 0]) (ztf (ymm l i j hij hj hb)) (.inl rfl) zz3 rfl zz5
 rwa [zy88 zz3] at h
theorem zif (a b:List Span) (x:Span) (i j:Int) (hi:i=a.length) (hj:j=a.length+1) (hb:(a++x::b).length<2 ^ 40) :
 zao Tryz.prog 198 [.own 1000,i64 i,i64 j] (lk .free [(1000,.live (.row 199 2 ((a++x::b).map Span.row)))])
  (.own 0) (lk .free [(1000,.dead),(0,.live (.row 199 2 ((a++b).map Span.row)))]):=by
 subst hi hj;have h:=yve (a++x::b) a.length (a.length+1) zz0 zz4 hb
 rwa [zy147,show (a++x::b).drop (a.length+1)=b by rw [<- zy114,zy107];rfl,zy122] at h
theorem yfx {inp out:List Span} (a b:List Span) (x:Span) (i j:Int) (h1:inp=a++x::b) (h2:out=a++b) (hi:i=a.length) (hj:j=a.length+1) (hb:inp.length<2 ^ 40) :
 zao Tryz.prog 198 [.own 1000,i64 i,i64 j] (lk .free [(1000,.live (.row 199 2 (inp.map Span.row)))])
  (.own 0) (lk .free [(1000,.dead),(0,.live (.row 199 2 (out.map Span.row)))]):=by
 subst h1 h2;exact zif a b x i j hi hj hb
theorem xbm {H:Nat->zad} {i1 i2 n o l:Nat} {t1 n1 t2 n2 c:Nat} {r1 r2:List (List PV)} (h1:H i1=.live (.row t1 n1 r1)) (h2:H i2=.live (.buf t2 n2 r2 c)) (hne:i1≠i2) :
 Ov Tryz.prog 204 [.own i1,.osl i2 n o l] H ⟨zbo false,[],[i1,i2]⟩:=by
 obtain ⟨inf,hi,hs⟩:=zy24.1 (show (Tryz.prog.info? 199).map (·.size)=some 2 by kernel_rfl);exact ⟨Tryz.f204,199,inf,_,_,i1,i2,_,_,Tryz.func204,rfl,by decide,by kernel_rfl,by kernel_rfl,⟨33,rfl,by kernel_rfl⟩,hi,by rw [hs];decide,rfl,.inl rfl,.inr ⟨_,_,_,rfl⟩,hne,h1,h2,by simp,by simp,rfl⟩
theorem ycn (l:List Span) (v:Span) (hb:l.length<2 ^ 40) :
 zao Tryz.prog 197 [.own 1000,i64 l.length,.own 1001] (lk .free [(1000,.live (.row 199 2 (l.map Span.row))),(1001,.live (.row 199 2 [v.row]))])
  (.own 0) (lk .free [(1000,.dead),(0,.live (.row 199 2 ((l++[v]).map Span.row))),(1001,.dead)]):=by
 refine zam mixed Tryz.func197 zz5 [1000,1001] (fun i=>by rcases zbh (L:=[(1000,zad.live (.row 199 2 (l.map Span.row))),(1001,.live (.row 199 2 [v.row]))]) i with h | h;exact .inl h;exact .inr h) ?_;have hlr:(l.map Span.row).length=l.length:=by simp
 (conv=>whnf);refine sO ?_;refine sT ?_;refine zaa (c:=((l.map Span.row).length+[v.row].length)*16<=140737488355328) zz3 (zw ?_);refine zal [(1000,some 1000),(0,some 25),(1001,some 1001)] rfl rfl ⟨rfl,rfl,trivial⟩ rfl rfl ⟨rfl,⟨rfl,.inl ⟨25,rfl,?_⟩⟩,rfl,trivial⟩;exact zca (f:=Span.row) rfl rfl
theorem yco (l:List Span) (k:Nat) (v:Span) (hk:k<l.length) (hb:l.length<2 ^ 40) :
 zao Tryz.prog 197 [.own 1000,i64 k,.own 1001] (lk .free [(1000,.live (.row 199 2 (l.map Span.row))),(1001,.live (.row 199 2 [v.row]))])
  (.own 0) (lk .free [(1000,.dead),(0,.live (.row 199 2 ((l.take k++v::l.drop k).map Span.row))),(1001,.dead)]):=by
 have hlr:(l.map Span.row).length=l.length:=by simp
 refine yqh (by intro h;rw [h] at hlr;simp at hlr;omega) fun cap hc1 hc2=>?_
 rw [hlr] at hc1;by_cases hc:l.length+1<=cap
 . have hw:=zjd (P:=Tryz.prog) (f:=197) (args:=[.osl 1000 2 0 (l.map Span.row).length,i64 k,.own 1001]) (H:=lk .free [(1000,.live (.buf 199 2 (l.map Span.row) cap)),(1001,.live (.row 199 2 [v.row]))])
    (id:=1000) (d:=0) (b:=.buf 199 2 ((l.take k++v::l.drop k).map Span.row) cap) (t:=199) (n:=2) (k:=l.length+1) (rows:=(l.take k++v::l.drop k).map Span.row) (L:=[(1001,.dead)]) ?_ (.inr ⟨cap,rfl⟩) zz3 rfl zz5
   . rwa [zy32 zz3] at hw
   refine zam mixed Tryz.func197 zz5 [1000,1001] (fun i=>by rcases zbh (L:=[(1000,zad.live (.buf 199 2 (l.map Span.row) cap)),(1001,.live (.row 199 2 [v.row]))]) i with h | h;exact .inl h;exact .inr h) ?_;(conv=>whnf);refine sO ?_;refine sN ?_;refine zap (z:=((l.map Span.row).length:Int)+1) (zbn zz0 zz0) (zw ?_);refine zaa zz0 (zw ?_);refine sN ?_;refine zap (z:=((l.map Span.row).length:Int)+1) (zbn zz0 zz0) (zw ?_);refine sO ?_;refine zbj (z':=((k+1:Nat):Int)) ?_ ?_
   . show W ((k:Int)+1)=_
     rw [zbn (by omega) (by omega)];push_cast;rfl
   (conv=>whnf);refine sO ?_;refine yvo (xbm rfl rfl zz5) (zw ?_);refine zbj (z':=((k+1:Nat):Int)) ?_ ?_
   . show W ((k:Int)+1)=_
     rw [zbn (by omega) (by omega)];push_cast;rfl
   (conv=>whnf);refine sO ?_;refine sO ?_;refine zit (o':=k) (n':=l.length-k) zz4 ?_ ?_
   . show min _ _=l.length-k
     simp;omega
   refine zod (l:=l) zz0 ?_;(conv=>whnf);refine sOm ?_;refine zbg ?_ ?_
   . kernel_rfl
   (conv=>whnf);refine sO ?_;refine zaa zz35 (zw ?_);refine zal [(1000,some 1000),(1001,some 1001)] rfl rfl ⟨rfl,rfl,trivial⟩ rfl ?_ ⟨⟨rfl,.inl ⟨1000,rfl,?_⟩⟩,rfl,trivial⟩
   . show HV.osl 1000 2 0 _=HV.osl 1000 2 0 _
     congr 1;simp
   . refine (congrArg (fun r=>zad.live (.buf _ 2 r cap)) (ywa (rows:=l.map Span.row) (k:=k) zz0 ?_ ?_ ?_ ?_)).trans ?_
     . simp<;>omega
     . rw [zy106]
     . simp<;>omega
     . simp<;>omega
     . refine congrArg (fun r=>zad.live (.buf _ 2 r cap)) (xer (f:=Span.row) ?_)
       simp;omega
 . refine zam mixed Tryz.func197 zz5 [1000,1001] (fun i=>by rcases zbh (L:=[(1000,zad.live (.buf 199 2 (l.map Span.row) cap)),(1001,.live (.row 199 2 [v.row]))]) i with h | h;exact .inl h;exact .inr h) ?_
   (conv=>whnf);refine sO ?_;refine sN ?_;refine zap (z:=((l.map Span.row).length:Int)+1) (zbn zz0 zz0) (zw ?_);refine zaa zz0 (zw ?_);refine sT ?_;refine sO ?_;refine zap (z:=((l.map Span.row).length:Int)+1) (zbn zz0 zz0) (zw ?_);refine zbj (z':=((l.length+1-k:Nat):Int)) ?_ ?_
   . show W (((l.map Span.row).length:Int)+1-k)=_
     rw [zbn (by omega) (by omega)];omega
   (conv=>whnf);refine zaa (show 0<=_/\_<=_/\_<_/\_<=_/\(_:Int)*16<=(140737488355328:Int) from ?_) ?_
   . simp;omega
   (conv=>whnf);refine zaa ?_ ?_
   . simp;omega
   (conv=>whnf);refine zaa zz35 (zw ?_);refine zbj (z':=((k+1:Nat):Int)) ?_ ?_
   . show W ((k:Int)+1)=_
     rw [zbn (by omega) (by omega)];push_cast;rfl
   (conv=>whnf);refine zaa zz35 (zw ?_);refine zaa zz35 (zw ?_);refine zit (o':=k) (n':=l.length-k) zz4 ?_ ?_
   . show min _ _=l.length-k
     simp [zck];omega
   refine zod (l:=l) zz0 ?_;(conv=>whnf);refine zaa zz35 (zw ?_);refine zbg ?_ ?_
   . kernel_rfl
   (conv=>whnf);refine zal [(1000,some 1000),(0,some 40),(1001,some 1001)] rfl rfl ⟨rfl,rfl,trivial⟩ rfl rfl ⟨rfl,⟨rfl,.inl ⟨40,rfl,?_⟩⟩,rfl,trivial⟩;refine (congrArg (fun r=>zad.live (.row _ 2 r)) (yvz (rows:=l.map Span.row) (k:=k) zz0 ?_ ?_ ?_ ?_ ?_)).trans ?_
   . simp
   . simp
   . simp;omega
   . simp
   . rw [zy106]
   . refine congrArg (fun r=>zad.live (.row _ 2 r)) (xer (f:=Span.row) ?_)
     simp;omega
theorem ygp (a b:List Span) (v:Span) (k:Int) (hk:k=a.length) (hb:(a++b).length<2 ^ 40) :
 zao Tryz.prog 197 [.own 1000,i64 k,.own 1001] (lk .free [(1000,.live (.row 199 2 ((a++b).map Span.row))),(1001,.live (.row 199 2 [v.row]))])
  (.own 0) (lk .free [(1000,.dead),(0,.live (.row 199 2 ((a++v::b).map Span.row))),(1001,.dead)]):=by
 subst hk;cases b with
 | nil =>
  rw [zy7] at hb ⊢;exact ycn a v hb
 | cons x b =>
  have h:=yco (a++x::b) a.length v zz4 hb
  rwa [zy147,zy107] at h
namespace Snd
open Ser
theorem xdk (l:List zag) (i j:Nat) (hij:i<=j) (hj:j<=l.length) (hb:l.length<2 ^ 40) :
 zao Tryz.prog 139 [.osl 1000 10 0 (l.map zag.row).length,i64 i,i64 j] (lk .free [(1000,.live (.row 117 10 (l.map zag.row)))])
  (.osl 1000 10 0 (l.length-(j-i))) (lk .free [(1000,.live (.row 117 10 ((l.take i++l.drop j).map zag.row++List.replicate (j-i) [pi 0,pi 0,pi 0,pi 0,pi 0,pi 0,pb false,pi 0,pi 0,.v (.slice none 0 0)])))]):=by
 refine zam mixed Tryz.func139 zz5 [1000] zbh ?_;have hlr:(l.map zag.row).length=l.length:=by simp
 (conv=>whnf);refine sO ?_;by_cases h:i=j
 . subst h
   refine sT ?_;refine zal [(1000,some 1000)] rfl rfl ⟨rfl,trivial⟩ rfl ?_ ⟨⟨rfl,.inl ⟨1000,rfl,?_⟩⟩,trivial⟩
   . show HV.osl 1000 10 0 (l.length-(i-i))=HV.osl 1000 10 0 (l.map zag.row).length
     rw [hlr,zy90];rfl
   . show zad.live (.row _ 10 (l.map zag.row))=zad.live (.row _ 10 _)
     rw [zy23,zy90,zy135,zy7]
 . refine sN ?_
   refine sO ?_;refine sO ?_;refine ⟨_,rfl,?_,?_⟩
   . rw [hlr];omega
   (conv=>whnf);refine zaa zz3 ?_;(conv=>whnf);refine zbg ?_ ?_
   . kernel_rfl
   (conv=>whnf);refine zaa zz35 ?_;(conv=>whnf);refine zaa zz35 ?_;(conv=>whnf);refine zal [(1000,some 1000)] rfl rfl ⟨rfl,trivial⟩ rfl ?_ ⟨⟨rfl,.inl ⟨1000,rfl,?_⟩⟩,trivial⟩
   . show HV.osl 1000 10 0 _=HV.osl 1000 10 0 _
     congr 1;simp;omega
   . refine (congrArg (fun r=>zad.live (.row _ 10 r)) (zxz (rows:=l.map zag.row) (i:=i) (j:=j) (z:=[pi 0,pi 0,pi 0,pi 0,pi 0,pi 0,pb false,pi 0,pi 0,.v (.slice none 0 0)]) hij (by rw [hlr];exact hj) ?_ ?_ ?_ ?_ ?_)).trans ?_
     . simp<;>omega
     . simp<;>omega
     . simp<;>omega
     . simp;omega
     . simp;omega
     . rw [zy41,zy121,zy106];rfl
theorem xcq (l:List zag) (i j:Nat) (hij:i<=j) (hj:j<=l.length) (hb:l.length<2 ^ 40) :
 zao Tryz.prog 139 [.own 1000,i64 i,i64 j] (lk .free [(1000,.live (.row 117 10 (l.map zag.row)))])
  (.own 0) (lk .free [(1000,.dead),(0,.live (.row 117 10 ((l.take i++l.drop j).map zag.row)))]):=by
 have h:=zjd (d:=0) (L:=[]) (rows:=(l.take i++l.drop j).map zag.row++List.replicate (j-i) [pi 0,pi 0,pi 0,pi 0,pi 0,pi 0,pb false,pi 0,pi 0,.v (.slice none 0 0)]) (ztf (xdk l i j hij hj hb)) (.inl rfl) zz3 rfl zz5
 rwa [zy88 zz3] at h
theorem zjp (s:zho) (m:zag) (bytes:Int) (ypc:Bool) (hb:s.had.length<2 ^ 40) (c2:0<=m.message.stream) (c3:m.message.stream<s.had.length) :
 zao Tryz.prog 138 [s.hv,m.hv,i64 bytes,zbo ypc] zae (.agg [i64 (Sch.had s m bytes ypc).last,i64 (Sch.had s m bytes ypc).hand,.own 0]) (lk .free [(0,ynt (Sch.had s m bytes ypc).had)]):=by
 have hy:(s.had.map fun n=>[pi n]).set m.message.stream.toNat [pi (W (s.had[m.message.stream.toNat]+bytes))]=(Sch.had s m bytes ypc).had.map fun n=>[pi n]:=by
  simp only [Sch.had,zy1 (And.intro c2 c3)];rw [zy102,zy2 (by omega)]
  rfl
 refine zam mixed Tryz.func138 zz5 [] (fun _=>.inl rfl) ?_;(conv=>whnf)
 (refine zar [(0,11)] ?_;(conv=>whnf);refine dO (Sch.zcy s hb) ?_)
 refine sD ?_;refine zah (fun c1=>?_) (fun c1=>?_)
 all_goals
  subst c1;(conv=>whnf)
  repeat refine sG ?_
  refine zai ?_ ?_
  . simpa using c2
  (conv=>whnf);refine zai ?_ ?_
  . simpa using c3
  conv=>whnf
  repeat refine sG ?_
  refine sOm ?_;refine zbx (r:=[pi s.had[m.message.stream.toNat]]) zz0 (by rw [zy31,zy16,zy2 (h:=show m.message.stream.toNat<s.had.length by omega)];rfl) ?_;(conv=>whnf);refine zcs (zw ?_);refine sOm ?_;refine zbx (r:=[pi s.had[m.message.stream.toNat]]) zz0 (by rw [zy31,zy16,zy2 (h:=show m.message.stream.toNat<s.had.length by omega)];rfl) ?_;(conv=>whnf);refine zal [(0,some 11)] rfl rfl trivial rfl rfl ⟨⟨rfl,.inl ⟨11,rfl,?_⟩⟩,trivial⟩;exact zaq hy
theorem yrf {α:Type} {p:α->Bool}:∀ {l:List α} {k:Nat},0<=zbt p k l->∃ i,i<l.length/\zbt p k l=((k+i:Nat):Int)
 | [],k,h=>by simp [zbt] at h
 | y::r,k,h=>by
  simp only [zbt] at h ⊢;split at h
  . rename_i hp;exact ⟨0,by simp,by rw [zy1 hp];simp⟩
  . rename_i hp
    obtain ⟨i,h1,h2⟩:=yrf h;exact ⟨i+1,by simp;omega,by rw [zy0 hp,h2];congr 1;omega⟩
theorem yhy {t:Int} {s:zho} {q:List zag} (h:0<=Sch.next t s q):∃ k:Nat,k<q.length/\Sch.next t s q=k:=by
 have hf:∀ st,0<=Sch.first q st->∃ k:Nat,k<q.length/\Sch.first q st=k:=fun st h=>by
  obtain ⟨i,h1,h2⟩:=yrf h;exact ⟨i,h1,by rw [Sch.first,h2];simp⟩
 have ha:∀ (j k:Nat) (last n:Int),0<=Sch.after q last n k j->∃ i:Nat,i<q.length/\Sch.after q last n k j=i:=by
  intro j
  induction j with
  | zero=>intro k last n h;simp [Sch.after] at h
  | succ j ih =>
   intro k last n h;rw [Sch.after] at h ⊢;split at h
   . rename_i c;rw [zy1 c];exact hf _ h
   . rename_i c;rw [zy0 c];exact ih _ _ _ h
 have hr:∀ (j k:Nat),0<=Sch.zfg q k j->∃ i:Nat,i<q.length/\Sch.zfg q k j=i:=by
  intro j
  induction j with
  | zero=>intro k h;simp [Sch.zfg] at h
  | succ j ih =>
   intro k h;rw [Sch.zfg] at h ⊢;split at h
   . rename_i c;rw [zy1 c];exact hf _ h
   . rename_i c;rw [zy0 c];exact ih _ h
 unfold Sch.next at h ⊢;split at h
 . omega
 rename_i c0;rw [zy0 c0];split at h
 . omega
 rename_i c1;rw [zy0 c1];split at h
 . rename_i c;rw [zy1 c]
   split at h
   . rename_i c;rw [zy1 c];obtain ⟨i,h1,h2⟩:=yrf h;exact ⟨i,h1,by rw [Sch.ztj,h2];simp⟩
   . rename_i c;rw [zy0 c];exact ha _ _ _ _ h
 rename_i c;rw [zy0 c];split at h
 . rename_i c;rw [zy1 c];exact ha _ _ _ _ h
 rename_i c;rw [zy0 c];split at h
 . rename_i c;rw [zy1 c];exact hr _ _ h
 rename_i c;rw [zy0 c];split at h
 . rename_i c;rw [zy1 c];unfold Sch.least at h ⊢
   split at h
   . omega
   . rename_i c;rw [zy0 c];exact hf _ h
 . rename_i c;rw [zy0 c];exact ⟨0,by omega,rfl⟩
structure zsk (s:zab) (m:zag):Prop where
 mid:xfs s m
 had:m.message.stream<s.sched.had.length
 sent:0<=m.sent
 left:m.sent<m.message.data.length
 data:m.message.data.length<2 ^ 30
structure xdb (s:zab):Prop where
 g:yic s
 some:0<s.paths.length
 part:1<=s.config.part
 part2:s.config.part<2 ^ 30
 msg:∀ m∈s.queue,zsk s m
def nx (s:zab) (o:List (List Chunk)):zgn×Bool:=match next ⟨s,o⟩ with
 | none=>(⟨s,o⟩,false)
 | some q=>(q,true)
theorem yry {s:zab} {o:List (List Chunk)} (h:zeq s<0):nx s o=(⟨s,o⟩,false):=by
 rw [nx,next,zy1 (.inl h)]
theorem yrz {s:zab} {o:List (List Chunk)} {w:Path} (hw:s.paths[choose s]?=some w) (h:¬ w.zbd<w.window):nx s o=(⟨s,o⟩,false):=by
 rw [nx,next,zy1 (.inr (.inl (by simp only [opened,hw];simpa using h)))]
theorem ysa {s:zab} {o:List (List Chunk)} (h:(s.out.length:Int)>=60):nx s o=(⟨s,o⟩,false):=by
 rw [nx,next,zy1 (.inr (.inr h))]
theorem ysb {s:zab} {o:List (List Chunk)} {w:Path} {k:Nat} {m:zag} (h1:zeq s=k) (hm:s.queue[k]?=some m) (hw:s.paths[choose s]?=some w) (h2:w.zbd<w.window) (h3:¬ (s.out.length:Int)>=60) (h4:zbd s>0/\W (zbd s+many s m)>s.room) :
 nx s o=(⟨s,o⟩,false):=by
 rw [nx,next,zy0 (by rw [h1];rintro (h | h | h);omega;(simp only [opened,hw] at h;simp at h;omega);exact h3 h)];simp only [h1,zy31,hm];rw [zy1 h4]
theorem zws {s:zab} {o:List (List Chunk)} {w:Path} {k:Nat} {m:zag} (h1:zeq s=k) (hm:s.queue[k]?=some m) (hw:s.paths[choose s]?=some w) (h2:w.zbd<w.window) (h3:¬ (s.out.length:Int)>=60) (h4:¬ (zbd s>0/\W (zbd s+many s m)>s.room)) :
 nx s o=(yru ⟨s,o⟩ k m (many s m),true):=by
 rw [nx,next,zy0 (by rw [h1];rintro (h | h | h);omega;(simp only [opened,hw] at h;simp at h;omega);exact h3 h)];simp only [h1,zy31,hm];rw [zy0 h4]
theorem zpt {s:zab} {m:zag} (hp:1<=s.config.part) (hp2:s.config.part<2 ^ 30) (_:0<=m.sent) (h2:m.sent<m.message.data.length) (_:m.message.data.length<2 ^ 30):1<=many s m/\many s m<2 ^ 30/\m.sent+many s m<=m.message.data.length:=by
 unfold many;split<;>omega
abbrev ovr (s:zab) (m:zag):Bool:=m.sent+many s m==((m.message.data.map zdg).length:Int)
theorem yyx (s:zab) (m:zag):decide (m.sent+many s m=m.message.data.length)=ovr s m:=by
 unfold ovr;rw [zy3,zy136];simp
def m2 (s:zab) (m:zag):zag:={m with mid:=zci s m,sent:=m.sent+many s m,parts:=W (m.parts+1)}
def x0 (s:zab) (m:zag):zbp:=⟨s.next,m.id,0,0,0,0,m.came,m.message.life,m.message.tries,⟨1,tag s.next,m.message.stream,tag (zci s m),m.parts,ovr s m,m.message.ordered,(m.message.data.drop m.sent.toNat).take (many s m).toNat,[],0,[]⟩⟩
def s2 (s:zab) (k:Nat) (m:zag):zab:={s with mids:=zet s m,sched:=Sch.had s.sched {m with mid:=zci s m} (many s m) (ovr s m),out:=s.out++[x0 s m],next:=W (s.next+1),queue:=s.queue.set k (m2 s m)}
theorem zff {s:zab} {o:List (List Chunk)} {k c:Nat} {m:zag} {w:Path} {l:List Chunk} (hc:choose s=c) (hw:s.paths[c]?=some w) (hl:o[c]?=some l) :
 yru ⟨s,o⟩ k m (many s m)=⟨{ybn (s2 s k m) s.out.length c (x0 s m) w with queue:=if ovr s m then s.queue.eraseIdx k else s.queue.set k (m2 s m)},o.set c (l++[(x0 s m).chunk])⟩:=by
 have e:=yyx s m;unfold yru cut;simp only [e];rw [hc];exact yyj (s:={s2 s k m with queue:=if ovr s m then s.queue.eraseIdx k else s.queue.set k (m2 s m)}) (i:=s.out.length) (x:=x0 s m) (a:=w) (l:=l) zz77 hw hl
theorem yns {s:zab} {k:Nat} {m:zag} {t:TypeId} {r1:List PV}:zad.live (.row t 10 ((((zhx s k m).queue.map zag.row).set k r1).set k (m2 s m).row))=zad.live (.row t 10 ((s2 s k m).queue.map zag.row)):=by
 rw [zy144];exact (zel (f:=zag.row) (y:=m2 s m) rfl).trans (zaq (by show ((s.queue.set k _).set k _).map _=_;rw [zy144];rfl))
theorem zjc {α:Type} {l:List α} {k:Nat} {y:α} (_:k<l.length):(l.set k y).take k++(l.set k y).drop (k+1)=l.eraseIdx k:=by
 rw [zy100,List.take_set_of_le (zy25 _),List.drop_set_of_lt (zy155 _)]
theorem zqj (s:zab) (a:List Chunk) (hs:xdb s) (h1p:s.paths.length=1) (hb:a.length<2 ^ 29):zao Tryz.prog 96 [.ptr 1000 0] (lk .free (pH1 s a)) (zbo (nx s [a]).2) (lk .free (pD1 (nx s [a]).1.s (yyu (nx s [a]).1.out))):=by
 obtain ⟨g,hp,hp1,hp2,hmsg⟩:=hs;obtain ⟨⟨f1,f2,f3,f4,f5,f6,f7⟩,g2,g3,g4⟩:=g;obtain ⟨hch,hch2⟩:=zdw hp;have hc0:choose s=0:=by omega
 have pc:=Paths.zdy s.paths zz0;rw [hch,hc0] at pc;have pn:=Sch.zuq s.config.turns s.sched s.queue zz0 zz0;obtain ⟨w,hw⟩:∃ w,s.paths[0]?=some w:=⟨_,zy2 zz0⟩
 have hwc:s.paths[choose s]?=some w:=by rw [hc0];exact hw
 generalize hG:nx s [a]=G;refine zam mixed Tryz.func96 zz5 [1000,1001,1002,1003,1004,1005,1006,1007,1008] zbh ?_;(conv=>whnf)
 (refine cL ?_;refine dL pc ?_)
 by_cases c1:zeq s<0
 case pos =>
  (refine cL ?_;refine dL pn ?_)
  refine sD ?_;refine zai ?_ ?_
  . exact zy19 c1
  (conv=>whnf);rw [yry c1] at hG;exact yy20
 obtain ⟨k,hkl,hke⟩:=yhy (t:=s.config.turns) (s:=s.sched) (q:=s.queue) zz89;have hke':zeq s=k:=hke;rw [hke] at pn;obtain ⟨m,hm⟩:∃ m,s.queue[k]?=some m:=⟨_,zy2 hkl⟩
 have hmf:=hmsg m (zy4 hm);obtain ⟨mf,mh,ms,ml,md⟩:=hmf;obtain ⟨n1,n2,n3⟩:=zpt (s:=s) (m:=m) hp1 hp2 ms ml md
 (refine cL ?_;refine dL pn ?_)
 refine sD ?_
 try (refine zaf ?_ ?_;· simp;conv=>whnf)
 refine sOm ?_;refine zaj hw rfl (zw ?_)
 (refine cL ?_;refine dL (Paths.zjr w) ?_)
 by_cases c2:w.zbd<w.window
 case neg =>
  refine zai ?_ ?_
  . simpa using c2
  (conv=>whnf);rw [yrz hwc c2] at hG;exact yy20
 refine zaf ?_ ?_
 . simpa using c2
 (conv=>whnf);by_cases c3:(s.out.length:Int)>=60
 case pos =>
  refine zai ?_ ?_
  . rw [zy3];exact zy19 c3
  (conv=>whnf);rw [ysa c3] at hG;exact yy20
 refine zaf ?_ ?_
 . rw [zy3];exact zy30 c3
 conv=>whnf
 repeat refine sG ?_
 refine sOm ?_;refine zaj hm rfl (zw ?_);refine zaj hm rfl (zw ?_);refine zbj (z':=(m.message.data.length:Int)-m.sent) ?_ ?_
 . show W _=_
   rw [zy3];exact zbn zz0 zz0
 (conv=>whnf);refine sD ?_
 (refine zac [] [(1000,1000),(1001,1001),(1002,1002),(1003,1003),(1004,1004),(1005,1005),(1006,1006),(1007,1007),(1008,1008)] [] ?_;(conv=>whnf);refine dG (yel s a f4) ?_)
 have hWs:W (m.sent+many s m)=m.sent+many s m:=zbn zz0 zz0;by_cases c4:zbd s>0
 case pos =>
  refine zai ?_ ?_
  . exact zy19 c4
  (conv=>whnf);refine sR ?_;by_cases c5:W (zbd s+many s m)>s.room
  case pos =>
   refine zai ?_ ?_
   . exact zy19 c5
   (conv=>whnf);rw [ysb hke' hm hwc c2 c3 ⟨c4,c5⟩] at hG;exact yy20
  refine zaf ?_ ?_
  . exact zy30 c5
  conv=>whnf
  repeat refine sG ?_
  rw [zws hke' hm hwc c2 c3 fun h=>c5 h.2] at hG;exact yy2
 refine zaf ?_ ?_
 . exact zy30 c4
 conv=>whnf
 repeat refine sG ?_
 rw [zws hke' hm hwc c2 c3 fun h=>c4 h.1] at hG;exact yy2
end Snd
namespace Snd
open Ser
theorem yep (s:zab) (a b:List Chunk) (hs:xdb s) (h1p:s.paths.length=2) (hc0:choose s=0) (hb:a.length+b.length<2 ^ 29):zao Tryz.prog 96 [.ptr 1000 0] (lk .free (pH2 s a b)) (zbo (nx s [a,b]).2) (lk .free (pD2 (nx s [a,b]).1.s (yyu (nx s [a,b]).1.out) (xej (nx s [a,b]).1.out))):=by
 obtain ⟨g,hp,hp1,hp2,hmsg⟩:=hs;obtain ⟨⟨f1,f2,f3,f4,f5,f6,f7⟩,g2,g3,g4⟩:=g;obtain ⟨hch,hch2⟩:=zdw hp;have pc:=Paths.zdy s.paths zz0;rw [hch,hc0] at pc;have pn:=Sch.zuq s.config.turns s.sched s.queue zz0 zz0;obtain ⟨w,hw⟩:∃ w,s.paths[0]?=some w:=⟨_,zy2 zz0⟩
 have hwc:s.paths[choose s]?=some w:=by rw [hc0];exact hw
 generalize hG:nx s [a,b]=G;refine zam mixed Tryz.func96 zz5 [1000,1001,1002,1003,1004,1005,1006,1007,1008,1009] zbh ?_;(conv=>whnf)
 (refine cL ?_;refine dL pc ?_)
 by_cases c1:zeq s<0
 case pos =>
  (refine cL ?_;refine dL pn ?_)
  refine sD ?_;refine zai ?_ ?_
  . exact zy19 c1
  (conv=>whnf);rw [yry c1] at hG;exact yy8
 obtain ⟨k,hkl,hke⟩:=yhy (t:=s.config.turns) (s:=s.sched) (q:=s.queue) zz89;have hke':zeq s=k:=hke;rw [hke] at pn;obtain ⟨m,hm⟩:∃ m,s.queue[k]?=some m:=⟨_,zy2 hkl⟩
 have hmf:=hmsg m (zy4 hm);obtain ⟨mf,mh,ms,ml,md⟩:=hmf;obtain ⟨n1,n2,n3⟩:=zpt (s:=s) (m:=m) hp1 hp2 ms ml md
 (refine cL ?_;refine dL pn ?_)
 refine sD ?_
 try (refine zaf ?_ ?_;· simp;conv=>whnf)
 refine sOm ?_;refine zaj hw rfl (zw ?_)
 (refine cL ?_;refine dL (Paths.zjr w) ?_)
 by_cases c2:w.zbd<w.window
 case neg =>
  refine zai ?_ ?_
  . simpa using c2
  (conv=>whnf);rw [yrz hwc c2] at hG;exact yy8
 refine zaf ?_ ?_
 . simpa using c2
 (conv=>whnf);by_cases c3:(s.out.length:Int)>=60
 case pos =>
  refine zai ?_ ?_
  . rw [zy3];exact zy19 c3
  (conv=>whnf);rw [ysa c3] at hG;exact yy8
 refine zaf ?_ ?_
 . rw [zy3];exact zy30 c3
 conv=>whnf
 repeat refine sG ?_
 refine sOm ?_;refine zaj hm rfl (zw ?_);refine zaj hm rfl (zw ?_);refine zbj (z':=(m.message.data.length:Int)-m.sent) ?_ ?_
 . show W _=_
   rw [zy3];exact zbn zz0 zz0
 (conv=>whnf);refine sD ?_
 (refine zac [] [(1000,1000),(1001,1001),(1002,1002),(1003,1003),(1004,1004),(1005,1005),(1006,1006),(1007,1007),(1008,1008),(1009,1009)] [] ?_;(conv=>whnf);refine dG (zrj s a b f4) ?_)
 have hWs:W (m.sent+many s m)=m.sent+many s m:=zbn zz0 zz0;by_cases c4:zbd s>0
 case pos =>
  refine zai ?_ ?_
  . exact zy19 c4
  (conv=>whnf);refine sR ?_;by_cases c5:W (zbd s+many s m)>s.room
  case pos =>
   refine zai ?_ ?_
   . exact zy19 c5
   (conv=>whnf);rw [ysb hke' hm hwc c2 c3 ⟨c4,c5⟩] at hG;exact yy8
  refine zaf ?_ ?_
  . exact zy30 c5
  conv=>whnf
  repeat refine sG ?_
  rw [zws hke' hm hwc c2 c3 fun h=>c5 h.2] at hG;exact yy0
 refine zaf ?_ ?_
 . exact zy30 c4
 conv=>whnf
 repeat refine sG ?_
 rw [zws hke' hm hwc c2 c3 fun h=>c4 h.1] at hG;exact yy0
end Snd
namespace Snd
open Ser
theorem yeq (s:zab) (a b:List Chunk) (hs:xdb s) (h1p:s.paths.length=2) (hc0:choose s=1) (hb:a.length+b.length<2 ^ 29):zao Tryz.prog 96 [.ptr 1000 0] (lk .free (pH2 s a b)) (zbo (nx s [a,b]).2) (lk .free (pD2 (nx s [a,b]).1.s (yyu (nx s [a,b]).1.out) (xej (nx s [a,b]).1.out))):=by
 obtain ⟨g,hp,hp1,hp2,hmsg⟩:=hs;obtain ⟨⟨f1,f2,f3,f4,f5,f6,f7⟩,g2,g3,g4⟩:=g;obtain ⟨hch,hch2⟩:=zdw hp;have pc:=Paths.zdy s.paths zz0;rw [hch,hc0] at pc;have pn:=Sch.zuq s.config.turns s.sched s.queue zz0 zz0;obtain ⟨w,hw⟩:∃ w,s.paths[1]?=some w:=⟨_,zy2 zz0⟩
 have hwc:s.paths[choose s]?=some w:=by rw [hc0];exact hw
 generalize hG:nx s [a,b]=G;refine zam mixed Tryz.func96 zz5 [1000,1001,1002,1003,1004,1005,1006,1007,1008,1009] zbh ?_;(conv=>whnf)
 (refine cL ?_;refine dL pc ?_)
 by_cases c1:zeq s<0
 case pos =>
  (refine cL ?_;refine dL pn ?_)
  refine sD ?_;refine zai ?_ ?_
  . exact zy19 c1
  (conv=>whnf);rw [yry c1] at hG;exact yy8
 obtain ⟨k,hkl,hke⟩:=yhy (t:=s.config.turns) (s:=s.sched) (q:=s.queue) zz89;have hke':zeq s=k:=hke;rw [hke] at pn;obtain ⟨m,hm⟩:∃ m,s.queue[k]?=some m:=⟨_,zy2 hkl⟩
 have hmf:=hmsg m (zy4 hm);obtain ⟨mf,mh,ms,ml,md⟩:=hmf;obtain ⟨n1,n2,n3⟩:=zpt (s:=s) (m:=m) hp1 hp2 ms ml md
 (refine cL ?_;refine dL pn ?_)
 refine sD ?_
 try (refine zaf ?_ ?_;· simp;conv=>whnf)
 refine sOm ?_;refine zaj hw rfl (zw ?_)
 (refine cL ?_;refine dL (Paths.zjr w) ?_)
 by_cases c2:w.zbd<w.window
 case neg =>
  refine zai ?_ ?_
  . simpa using c2
  (conv=>whnf);rw [yrz hwc c2] at hG;exact yy8
 refine zaf ?_ ?_
 . simpa using c2
 (conv=>whnf);by_cases c3:(s.out.length:Int)>=60
 case pos =>
  refine zai ?_ ?_
  . rw [zy3];exact zy19 c3
  (conv=>whnf);rw [ysa c3] at hG;exact yy8
 refine zaf ?_ ?_
 . rw [zy3];exact zy30 c3
 conv=>whnf
 repeat refine sG ?_
 refine sOm ?_;refine zaj hm rfl (zw ?_);refine zaj hm rfl (zw ?_);refine zbj (z':=(m.message.data.length:Int)-m.sent) ?_ ?_
 . show W _=_
   rw [zy3];exact zbn zz0 zz0
 (conv=>whnf);refine sD ?_
 (refine zac [] [(1000,1000),(1001,1001),(1002,1002),(1003,1003),(1004,1004),(1005,1005),(1006,1006),(1007,1007),(1008,1008),(1009,1009)] [] ?_;(conv=>whnf);refine dG (zrj s a b f4) ?_)
 have hWs:W (m.sent+many s m)=m.sent+many s m:=zbn zz0 zz0;by_cases c4:zbd s>0
 case pos =>
  refine zai ?_ ?_
  . exact zy19 c4
  (conv=>whnf);refine sR ?_;by_cases c5:W (zbd s+many s m)>s.room
  case pos =>
   refine zai ?_ ?_
   . exact zy19 c5
   (conv=>whnf);rw [ysb hke' hm hwc c2 c3 ⟨c4,c5⟩] at hG;exact yy8
  refine zaf ?_ ?_
  . exact zy30 c5
  conv=>whnf
  repeat refine sG ?_
  rw [zws hke' hm hwc c2 c3 fun h=>c5 h.2] at hG;exact yy1
 refine zaf ?_ ?_
 . exact zy30 c4
 conv=>whnf
 repeat refine sG ?_
 rw [zws hke' hm hwc c2 c3 fun h=>c4 h.1] at hG;exact yy1
theorem yof (s:zab) (a b:List Chunk) (hs:xdb s) (h1p:s.paths.length=2) (hb:a.length+b.length<2 ^ 29):zao Tryz.prog 96 [.ptr 1000 0] (lk .free (pH2 s a b)) (zbo (nx s [a,b]).2) (lk .free (pD2 (nx s [a,b]).1.s (yyu (nx s [a,b]).1.out) (xej (nx s [a,b]).1.out))):=by
 have hc01:choose s=0\/choose s=1:=by have:=(zdw hs.some).2;omega
 exact hc01.elim (fun h=>yep s a b hs h1p h hb) fun h=>yeq s a b hs h1p h hb
end Snd
namespace Snd
open Ser
abbrev zjk (l:List zay):zad:=.live (.row 110 3 (l.map zay.row))
abbrev roK (l:List Chunk):zad:=.ro (.row 61 11 (l.map Chunk.row))
def xgi (id:Nat):List Chunk->List Chunk->HV
 | [],_=>.own id
 | _::a,b=>.osl id 11 (a.length+1) b.length
theorem zoe {α:Type} {f:α->List PV} {l a b c:List α} {o n:Nat} {K:List (List PV)->Prop} (h:l=a++b++c) (ho:o=a.length) (hn:n=b.length) (hk:K (b.map f)):zqy (l.map f) o n K:=by
 subst h ho hn;refine ⟨_,rfl,by simp,?_⟩
 rwa [<- zy106,<- zy121,zy28,zy107,zy147]
theorem zhc {i s o o' n n':Nat} (ho:o=o') (hn:n=n'):HV.osl i s o n=.osl i s o' n':=by rw [ho,hn]
theorem yhh {most:Int} {l:List Chunk} (h:l≠[]):∃ k:Nat,zcd most l=k/\1<=k/\k<=l.length:=by
 obtain ⟨r,h1,h2,-⟩:=Pck.xag l most;have h3:=zy27.2 h;have h4:=h2.1;unfold zcd;rw [h1];split
 . exact ⟨1,rfl,by omega,by omega⟩
 . exact ⟨r,rfl,by omega,by omega⟩
theorem ztx (most path:Int) (n:Nat):zgj most path n []=[]:=by cases n<;>simp [zgj]
def Okc (c:Chunk):Prop:=c.zax.length<2 ^ 38/\c.zbs.length<2 ^ 38
abbrev pE1 (s:zab) (ps:List zay):List (Nat×zad):=(1000,.live (.cells 139 (yut s (.own 1001) (.own 1002) (.own 1003) (.own 1004) (.own 1005) (.own 1006) (.own 1007))))::zxa s 1001 1002 1003 1004 1005 1006 [(1007,.dead),(1008,.dead),(0,zjk ps)]
abbrev pR1 (s:zab) (a:List Chunk) (L:List (Nat×zad)):List (Nat×zad):=(1000,.live (.cells 139 (yut s (.own 1001) (.own 1002) (.own 1003) (.own 1004) (.own 1005) (.own 1006) (.own 1007))))::zxa s 1001 1002 1003 1004 1005 1006 ((1007,.live (.cells 145 [.own 1008]))::(1008,roK a)::L)
abbrev pE2 (s:zab) (ps:List zay):List (Nat×zad):=(1000,.live (.cells 139 (yut s (.own 1001) (.own 1002) (.own 1003) (.own 1004) (.own 1005) (.own 1006) (.own 1007))))::zxa s 1001 1002 1003 1004 1005 1006 [(1007,.dead),(1008,.dead),(1009,.dead),(0,zjk ps)]
abbrev pR2 (s:zab) (a b:List Chunk) (L:List (Nat×zad)):List (Nat×zad):=(1000,.live (.cells 139 (yut s (.own 1001) (.own 1002) (.own 1003) (.own 1004) (.own 1005) (.own 1006) (.own 1007))))::zxa s 1001 1002 1003 1004 1005 1006 ((1007,.live (.cells 145 [.own 1008,.own 1009]))::(1008,roK a)::(1009,roK b)::L)
theorem yad (s:zab) (a:List Chunk) (hm:inI s.config.packet) (ha:a.length<2 ^ 29) (hka:∀ c∈a,Okc c):zao Tryz.prog 97 [.ptr 1000 0] (lk .free (pH1 s a)) (.own 0) (lk .free (pE1 s (zcb s.config.packet 0 [a]))):=by
 generalize hT:zcb s.config.packet 0 [a]=T;refine zam mixed Tryz.func97 zz5 [1000,1001,1002,1003,1004,1005,1006,1007,1008] zbh ?_;(conv=>whnf);refine ⟨{x:Nat×List zay // x.1<=1/\x.2.length<=x.1*2 ^ 29/\x.2++zcb s.config.packet x.1 ([a].drop x.1)=T},
  fun | ⟨(i,acc),_⟩=>hsP [1000,1001,1002,1003,1004,1005,1006,1007,1008] 57 [(0,.ptr 1000 0),(3,.own 900),(12,.own 1007),(13,i64 1),(14,i64 i)] (pR1 s a [(900,zjk acc)]),fun x=>1-x.1.1,⟨(0,[]),by dsimp only;omega,by simp,hT⟩,?_,?_⟩
 . exact (zcu (pK9 [(900,none)]))
 rintro ⟨⟨i,acc⟩,k1,k3,k2⟩;dsimp only at k1 k2 k3;refine zgh fun Q hQ=>?_
 have hi:i=0\/i=1:=by omega
 rcases hi with rfl | rfl
 case inl =>
  have hdr:zcb s.config.packet 0 ([a].drop 0)=zgj s.config.packet 0 a.length a++zcb s.config.packet (0+1) ([a].drop (0+1)):=rfl;rw [hdr] at k2;(conv=>whnf);refine ⟨0,rfl,by decide,zw ?_⟩;refine ⟨{x:(List Chunk×List Chunk)×Nat×List zay // a=x.1.1++x.1.2/\x.1.2.length<=x.2.1/\x.2.2.length+x.1.2.length<=(0+1)*2 ^ 29/\x.2.2++(zgj s.config.packet 0 x.2.1 x.1.2++zcb s.config.packet (0+1) ([a].drop (0+1)))=T},
   fun | ⟨((A,B),n,acc),_⟩=>hsP [1000,1001,1002,1003,1004,1005,1006,1007,1008] 57 [(0,.ptr 1000 0),(3,.own 900),(4,i64 0),(5,xgi 1008 A B),(12,.own 1007),(13,i64 1),(14,i64 0)] (pR1 s a [(900,zjk acc)]),fun x=>x.1.1.2.length,⟨(([],a),a.length,acc),rfl,by simp,by dsimp only;omega,k2⟩,?_,?_⟩
  . exact (zcu (pK9 [(900,some 900)]))
  rintro ⟨⟨⟨A,B⟩,n,acc⟩,i1,i2,i4,i3⟩;dsimp only at i1 i2 i3 i4;refine zgh fun Q2 hQ2=>?_
  have hz:a.length=A.length+B.length:=by rw [i1];simp
  have hko:∀ c∈a,Okc c:=hka;by_cases hB:B=[]
  case pos =>
   subst hB;rw [ztx,zy81] at i3;rw [zy13] at hz;cases A with
   | nil =>
    (conv=>whnf);have ha0:a=[]:=zy17 zz92;refine zaf ?_ ?_
    . simp [ha0]
    exact yy45
   | cons t A =>
    exact yy45
  case neg =>
  obtain ⟨r,r1,r2,r3⟩:=yhh (most:=s.config.packet) hB;have hBl:=zy27.2 hB;obtain ⟨n,rfl⟩:∃ n',n=n'+1:=⟨n-1,by omega⟩
  have hN:zgj s.config.packet 0 (n+1) B=zmo s.config.packet 0 B++zgj s.config.packet 0 n (B.drop r):=by rw [zgj,zy0 hB,r1,zy31]
  have hP:zmo s.config.packet 0 B=if (Pck.zcv (B.take r) s.config.packet).2=0 then [⟨0,false,(Pck.zcv (B.take r) s.config.packet).1⟩] else []:=by rw [zmo,r1,zy31]
  have hsz:Pck.zfv B:=⟨by omega,fun c hc=>hko c zz62⟩
  have hszr:Pck.zfv (B.take r):=hsz.take r;rw [hN,zy28] at i3;cases A with
  | nil =>
   have i1':B=a:=i1.symm;subst i1';(conv=>whnf);refine sT ?_
   repeat refine sG ?_
   (refine cL ?_;refine dL (Pck.zmf B s.config.packet hsz hm) ?_)
   refine zaa (c:=(0:Int)<=0/\(0:Int)<=zcd s.config.packet B/\zcd s.config.packet B<=((B.map Chunk.row).length:Int)) ⟨by omega,by omega,by rw [zy3];omega⟩ (zw ?_);refine zdv (zw ?_);refine zoe (a:=[]) (b:=B.take r) (c:=B.drop r) zz4 rfl (show (zcd s.config.packet B-0).toNat=_ by rw [r1];simp;omega) ?_;(conv=>whnf);refine ⟨_,Pck.zfr (B.take r) s.config.packet hszr,rfl,zw ?_⟩;refine sD ?_;by_cases ho:(Pck.zcv (B.take r) s.config.packet).2=0
   case pos =>
    rw [zy1 ho] at hP;refine zai ?_ ?_
    . simpa using ho
    (conv=>whnf);refine zaa (c:=((acc.map zay.row).length+1)*40<=140737488355328) zz14 (zw ?_)
    repeat refine sG ?_
    refine zaa (c:=(0:Int)<=zcd s.config.packet B/\zcd s.config.packet B<=((B.map Chunk.row).length:Int)/\((B.map Chunk.row).length:Int)<=((B.map Chunk.row).length:Int)) ⟨by omega,by rw [zy3];omega,by omega⟩ (zw ?_);obtain ⟨x,B1,hx⟩:∃ x B1,B.take r=x::B1:=by
     exact yy16
    have hxl:B1.length+1=r:=by have:=congrArg List.length hx;simp at this;omega
    refine hQ2 _ _ (zw ?_);exact ⟨⟨((x::B1,B.drop r),n,acc++[⟨0,false,(Pck.zcv (B.take r) s.config.packet).1⟩]),by rw [<- hx,zy23],by simp;omega,by simp;omega,by rw [<- i3,hP];simp⟩,(zbu (pK9 [(900,some 51)]) zz7),by simp;omega⟩
   case neg =>
    rw [zy0 ho] at hP;refine zaf ?_ ?_
    . simpa using ho
    conv=>whnf
    repeat refine sG ?_
    refine zaa (c:=(0:Int)<=zcd s.config.packet B/\zcd s.config.packet B<=((B.map Chunk.row).length:Int)/\((B.map Chunk.row).length:Int)<=((B.map Chunk.row).length:Int)) ⟨by omega,by rw [zy3];omega,by omega⟩ (zw ?_);obtain ⟨x,B1,hx⟩:∃ x B1,B.take r=x::B1:=by
     exact yy16
    have hxl:B1.length+1=r:=by have:=congrArg List.length hx;simp at this;omega
    refine hQ2 _ _ (zw ?_);exact ⟨⟨((x::B1,B.drop r),n,acc),by rw [<- hx,zy23],by simp;omega,by simp;omega,by rw [<- i3,hP];simp⟩,(zbu (pK9 [(900,some 900)]) zz7),by simp;omega⟩
  | cons t A =>
   have hal:(A.length:Int)+1=((t::A).length:Nat):=by simp
   (conv=>whnf);refine sT ?_
   repeat refine sG ?_
   refine zbk (zw ?_);refine zoe (a:=t::A) (b:=B) (c:=[]) zz74 rfl rfl ?_;(conv=>whnf);refine ⟨_,Pck.zmf B s.config.packet hsz hm,rfl,zw ?_⟩
   repeat refine sG ?_
   refine zaa (c:=(0:Int)<=zcd s.config.packet B/\((A.length+1:Nat):Int)+zcd s.config.packet B<=((a.map Chunk.row).length:Int)) ⟨by omega,by rw [zy3,hz,zy6];omega⟩ (zw ?_);refine zdv (zw ?_);refine zoe (a:=t::A) (b:=B.take r) (c:=B.drop r) zz74 rfl (show (zcd s.config.packet B).toNat=_ by rw [r1];simp;omega) ?_;(conv=>whnf);refine ⟨_,Pck.zfr (B.take r) s.config.packet hszr,rfl,zw ?_⟩;refine sD ?_;by_cases ho:(Pck.zcv (B.take r) s.config.packet).2=0
   case pos =>
    rw [zy1 ho] at hP;refine zai ?_ ?_
    . simpa using ho
    (conv=>whnf);refine zaa (c:=((acc.map zay.row).length+1)*40<=140737488355328) zz14 (zw ?_)
    repeat refine sG ?_
    refine zaa (c:=(0:Int)<=zcd s.config.packet B/\zcd s.config.packet B<=(B.length:Int)/\((A.length+1:Nat):Int)+(B.length:Int)<=((a.map Chunk.row).length:Int)) ⟨by omega,by omega,by rw [zy3,hz,zy6];omega⟩ (zw ?_);refine hQ2 _ _ (zw ?_);exact ⟨⟨((t::(A++B.take r),B.drop r),n,acc++[⟨0,false,(Pck.zcv (B.take r) s.config.packet).1⟩]),by rw [i1];simp,by simp;omega,by simp;omega,by rw [<- i3,hP];simp⟩,(zbu (pK9 [(900,some 51)]) zz6),by simp;omega⟩
   case neg =>
    rw [zy0 ho] at hP;refine zaf ?_ ?_
    . simpa using ho
    conv=>whnf
    repeat refine sG ?_
    refine zaa (c:=(0:Int)<=zcd s.config.packet B/\zcd s.config.packet B<=(B.length:Int)/\((A.length+1:Nat):Int)+(B.length:Int)<=((a.map Chunk.row).length:Int)) ⟨by omega,by omega,by rw [zy3,hz,zy6];omega⟩ (zw ?_);refine hQ2 _ _ (zw ?_);exact ⟨⟨((t::(A++B.take r),B.drop r),n,acc),by rw [i1];simp,by simp;omega,by simp;omega,by rw [<- i3,hP];simp⟩,(zbu (pK9 [(900,some 900)]) zz6),by simp;omega⟩
 case inr =>
  have k2:acc=T:=by rw [<- k2];simp [zcb]
  subst k2;(conv=>whnf);refine hQ _ _ ?_;conv=>whnf
  (exact zby (pK9 [(0,some 900)]))
theorem yae (s:zab) (a b:List Chunk) (hm:inI s.config.packet) (ha:a.length<2 ^ 29) (hb:b.length<2 ^ 29) (hka:∀ c∈a,Okc c) (hkb:∀ c∈b,Okc c):zao Tryz.prog 97 [.ptr 1000 0] (lk .free (pH2 s a b)) (.own 0) (lk .free (pE2 s (zcb s.config.packet 0 [a,b]))):=by
 generalize hT:zcb s.config.packet 0 [a,b]=T;refine zam mixed Tryz.func97 zz5 [1000,1001,1002,1003,1004,1005,1006,1007,1008,1009] zbh ?_;(conv=>whnf);refine ⟨{x:Nat×List zay // x.1<=2/\x.2.length<=x.1*2 ^ 29/\x.2++zcb s.config.packet x.1 ([a,b].drop x.1)=T},
  fun | ⟨(i,acc),_⟩=>hsP [1000,1001,1002,1003,1004,1005,1006,1007,1008,1009] 57 [(0,.ptr 1000 0),(3,.own 900),(12,.own 1007),(13,i64 2),(14,i64 i)] (pR2 s a b [(900,zjk acc)]),fun x=>2-x.1.1,⟨(0,[]),by dsimp only;omega,by simp,hT⟩,?_,?_⟩
 . exact (zcu (zhe [(900,none)]))
 rintro ⟨⟨i,acc⟩,k1,k3,k2⟩;dsimp only at k1 k2 k3;refine zgh fun Q hQ=>?_
 have hi:i=0\/i=1\/i=2:=by omega
 rcases hi with rfl | rfl | rfl
 case inl =>
  have hdr:zcb s.config.packet 0 ([a,b].drop 0)=zgj s.config.packet 0 a.length a++zcb s.config.packet (0+1) ([a,b].drop (0+1)):=rfl;rw [hdr] at k2;(conv=>whnf);refine ⟨0,rfl,by decide,zw ?_⟩;refine ⟨{x:(List Chunk×List Chunk)×Nat×List zay // a=x.1.1++x.1.2/\x.1.2.length<=x.2.1/\x.2.2.length+x.1.2.length<=(0+1)*2 ^ 29/\x.2.2++(zgj s.config.packet 0 x.2.1 x.1.2++zcb s.config.packet (0+1) ([a,b].drop (0+1)))=T},
   fun | ⟨((A,B),n,acc),_⟩=>hsP [1000,1001,1002,1003,1004,1005,1006,1007,1008,1009] 57 [(0,.ptr 1000 0),(3,.own 900),(4,i64 0),(5,xgi 1008 A B),(12,.own 1007),(13,i64 2),(14,i64 0)] (pR2 s a b [(900,zjk acc)]),fun x=>x.1.1.2.length,⟨(([],a),a.length,acc),rfl,by simp,by dsimp only;omega,k2⟩,?_,?_⟩
  . exact (zcu (zhe [(900,some 900)]))
  rintro ⟨⟨⟨A,B⟩,n,acc⟩,i1,i2,i4,i3⟩;dsimp only at i1 i2 i3 i4;refine zgh fun Q2 hQ2=>?_
  have hz:a.length=A.length+B.length:=by rw [i1];simp
  have hko:∀ c∈a,Okc c:=hka;by_cases hB:B=[]
  case pos =>
   subst hB;rw [ztx,zy81] at i3;rw [zy13] at hz;cases A with
   | nil =>
    (conv=>whnf);have ha0:a=[]:=zy17 zz92;refine zaf ?_ ?_
    . simp [ha0]
    exact yy46
   | cons t A =>
    exact yy46
  case neg =>
  obtain ⟨r,r1,r2,r3⟩:=yhh (most:=s.config.packet) hB;have hBl:=zy27.2 hB;obtain ⟨n,rfl⟩:∃ n',n=n'+1:=⟨n-1,by omega⟩
  have hN:zgj s.config.packet 0 (n+1) B=zmo s.config.packet 0 B++zgj s.config.packet 0 n (B.drop r):=by rw [zgj,zy0 hB,r1,zy31]
  have hP:zmo s.config.packet 0 B=if (Pck.zcv (B.take r) s.config.packet).2=0 then [⟨0,false,(Pck.zcv (B.take r) s.config.packet).1⟩] else []:=by rw [zmo,r1,zy31]
  have hsz:Pck.zfv B:=⟨by omega,fun c hc=>hko c zz62⟩
  have hszr:Pck.zfv (B.take r):=hsz.take r;rw [hN,zy28] at i3;cases A with
  | nil =>
   have i1':B=a:=i1.symm;subst i1';(conv=>whnf);refine sT ?_
   repeat refine sG ?_
   (refine cL ?_;refine dL (Pck.zmf B s.config.packet hsz hm) ?_)
   refine zaa (c:=(0:Int)<=0/\(0:Int)<=zcd s.config.packet B/\zcd s.config.packet B<=((B.map Chunk.row).length:Int)) ⟨by omega,by omega,by rw [zy3];omega⟩ (zw ?_);refine zdv (zw ?_);refine zoe (a:=[]) (b:=B.take r) (c:=B.drop r) zz4 rfl (show (zcd s.config.packet B-0).toNat=_ by rw [r1];simp;omega) ?_;(conv=>whnf);refine ⟨_,Pck.zfr (B.take r) s.config.packet hszr,rfl,zw ?_⟩;refine sD ?_;by_cases ho:(Pck.zcv (B.take r) s.config.packet).2=0
   case pos =>
    rw [zy1 ho] at hP;refine zai ?_ ?_
    . simpa using ho
    (conv=>whnf);refine zaa (c:=((acc.map zay.row).length+1)*40<=140737488355328) zz14 (zw ?_)
    repeat refine sG ?_
    refine zaa (c:=(0:Int)<=zcd s.config.packet B/\zcd s.config.packet B<=((B.map Chunk.row).length:Int)/\((B.map Chunk.row).length:Int)<=((B.map Chunk.row).length:Int)) ⟨by omega,by rw [zy3];omega,by omega⟩ (zw ?_);obtain ⟨x,B1,hx⟩:∃ x B1,B.take r=x::B1:=by
     exact yy16
    have hxl:B1.length+1=r:=by have:=congrArg List.length hx;simp at this;omega
    refine hQ2 _ _ (zw ?_);exact ⟨⟨((x::B1,B.drop r),n,acc++[⟨0,false,(Pck.zcv (B.take r) s.config.packet).1⟩]),by rw [<- hx,zy23],by simp;omega,by simp;omega,by rw [<- i3,hP];simp⟩,(zbu (zhe [(900,some 51)]) zz7),by simp;omega⟩
   case neg =>
    exact yy12
  | cons t A =>
   have hal:(A.length:Int)+1=((t::A).length:Nat):=by simp
   (conv=>whnf);refine sT ?_
   repeat refine sG ?_
   refine zbk (zw ?_);refine zoe (a:=t::A) (b:=B) (c:=[]) zz74 rfl rfl ?_;(conv=>whnf);refine ⟨_,Pck.zmf B s.config.packet hsz hm,rfl,zw ?_⟩
   repeat refine sG ?_
   refine zaa (c:=(0:Int)<=zcd s.config.packet B/\((A.length+1:Nat):Int)+zcd s.config.packet B<=((a.map Chunk.row).length:Int)) ⟨by omega,by rw [zy3,hz,zy6];omega⟩ (zw ?_);refine zdv (zw ?_);refine zoe (a:=t::A) (b:=B.take r) (c:=B.drop r) zz74 rfl (show (zcd s.config.packet B).toNat=_ by rw [r1];simp;omega) ?_;(conv=>whnf);refine ⟨_,Pck.zfr (B.take r) s.config.packet hszr,rfl,zw ?_⟩;refine sD ?_;by_cases ho:(Pck.zcv (B.take r) s.config.packet).2=0
   case pos =>
    rw [zy1 ho] at hP;refine zai ?_ ?_
    . simpa using ho
    (conv=>whnf);refine zaa (c:=((acc.map zay.row).length+1)*40<=140737488355328) zz14 (zw ?_)
    repeat refine sG ?_
    refine zaa (c:=(0:Int)<=zcd s.config.packet B/\zcd s.config.packet B<=(B.length:Int)/\((A.length+1:Nat):Int)+(B.length:Int)<=((a.map Chunk.row).length:Int)) ⟨by omega,by omega,by rw [zy3,hz,zy6];omega⟩ (zw ?_);refine hQ2 _ _ (zw ?_);exact ⟨⟨((t::(A++B.take r),B.drop r),n,acc++[⟨0,false,(Pck.zcv (B.take r) s.config.packet).1⟩]),by rw [i1];simp,by simp;omega,by simp;omega,by rw [<- i3,hP];simp⟩,(zbu (zhe [(900,some 51)]) zz6),by simp;omega⟩
   case neg =>
    rw [zy0 ho] at hP;refine zaf ?_ ?_
    . simpa using ho
    conv=>whnf
    repeat refine sG ?_
    refine zaa (c:=(0:Int)<=zcd s.config.packet B/\zcd s.config.packet B<=(B.length:Int)/\((A.length+1:Nat):Int)+(B.length:Int)<=((a.map Chunk.row).length:Int)) ⟨by omega,by omega,by rw [zy3,hz,zy6];omega⟩ (zw ?_);exact yy62
 case inr.inl =>
  have hdr:zcb s.config.packet 1 ([a,b].drop 1)=zgj s.config.packet 1 b.length b++zcb s.config.packet (1+1) ([a,b].drop (1+1)):=rfl;rw [hdr] at k2;(conv=>whnf);refine ⟨1,rfl,by decide,zw ?_⟩;refine ⟨{x:(List Chunk×List Chunk)×Nat×List zay // b=x.1.1++x.1.2/\x.1.2.length<=x.2.1/\x.2.2.length+x.1.2.length<=(1+1)*2 ^ 29/\x.2.2++(zgj s.config.packet 1 x.2.1 x.1.2++zcb s.config.packet (1+1) ([a,b].drop (1+1)))=T},
   fun | ⟨((A,B),n,acc),_⟩=>hsP [1000,1001,1002,1003,1004,1005,1006,1007,1008,1009] 57 [(0,.ptr 1000 0),(3,.own 900),(4,i64 1),(5,xgi 1009 A B),(12,.own 1007),(13,i64 2),(14,i64 1)] (pR2 s a b [(900,zjk acc)]),fun x=>x.1.1.2.length,⟨(([],b),b.length,acc),rfl,by simp,by dsimp only;omega,k2⟩,?_,?_⟩
  . exact (zcu (zhe [(900,some 900)]))
  rintro ⟨⟨⟨A,B⟩,n,acc⟩,i1,i2,i4,i3⟩;dsimp only at i1 i2 i3 i4;refine zgh fun Q2 hQ2=>?_
  have hz:b.length=A.length+B.length:=by rw [i1];simp
  have hko:∀ c∈b,Okc c:=hkb;by_cases hB:B=[]
  case pos =>
   subst hB;rw [ztx,zy81] at i3;rw [zy13] at hz;cases A with
   | nil =>
    (conv=>whnf);have ha0:b=[]:=zy17 zz92;refine zaf ?_ ?_
    . simp [ha0]
    exact yy47
   | cons t A =>
    exact yy47
  case neg =>
  obtain ⟨r,r1,r2,r3⟩:=yhh (most:=s.config.packet) hB;have hBl:=zy27.2 hB;obtain ⟨n,rfl⟩:∃ n',n=n'+1:=⟨n-1,by omega⟩
  have hN:zgj s.config.packet 1 (n+1) B=zmo s.config.packet 1 B++zgj s.config.packet 1 n (B.drop r):=by rw [zgj,zy0 hB,r1,zy31]
  have hP:zmo s.config.packet 1 B=if (Pck.zcv (B.take r) s.config.packet).2=0 then [⟨1,false,(Pck.zcv (B.take r) s.config.packet).1⟩] else []:=by rw [zmo,r1,zy31]
  have hsz:Pck.zfv B:=⟨by omega,fun c hc=>hko c zz62⟩
  have hszr:Pck.zfv (B.take r):=hsz.take r;rw [hN,zy28] at i3;cases A with
  | nil =>
   have i1':B=b:=i1.symm;subst i1';(conv=>whnf);refine sT ?_
   repeat refine sG ?_
   (refine cL ?_;refine dL (Pck.zmf B s.config.packet hsz hm) ?_)
   refine zaa (c:=(0:Int)<=0/\(0:Int)<=zcd s.config.packet B/\zcd s.config.packet B<=((B.map Chunk.row).length:Int)) ⟨by omega,by omega,by rw [zy3];omega⟩ (zw ?_);refine zdv (zw ?_);refine zoe (a:=[]) (b:=B.take r) (c:=B.drop r) zz4 rfl (show (zcd s.config.packet B-0).toNat=_ by rw [r1];simp;omega) ?_;(conv=>whnf);refine ⟨_,Pck.zfr (B.take r) s.config.packet hszr,rfl,zw ?_⟩;refine sD ?_;by_cases ho:(Pck.zcv (B.take r) s.config.packet).2=0
   case pos =>
    rw [zy1 ho] at hP;refine zai ?_ ?_
    . simpa using ho
    (conv=>whnf);refine zaa (c:=((acc.map zay.row).length+1)*40<=140737488355328) zz14 (zw ?_)
    repeat refine sG ?_
    refine zaa (c:=(0:Int)<=zcd s.config.packet B/\zcd s.config.packet B<=((B.map Chunk.row).length:Int)/\((B.map Chunk.row).length:Int)<=((B.map Chunk.row).length:Int)) ⟨by omega,by rw [zy3];omega,by omega⟩ (zw ?_);obtain ⟨x,B1,hx⟩:∃ x B1,B.take r=x::B1:=by
     exact yy16
    have hxl:B1.length+1=r:=by have:=congrArg List.length hx;simp at this;omega
    refine hQ2 _ _ (zw ?_);exact ⟨⟨((x::B1,B.drop r),n,acc++[⟨1,false,(Pck.zcv (B.take r) s.config.packet).1⟩]),by rw [<- hx,zy23],by simp;omega,by simp;omega,by rw [<- i3,hP];simp⟩,(zbu (zhe [(900,some 51)]) zz7),by simp;omega⟩
   case neg =>
    exact yy12
  | cons t A =>
   have hal:(A.length:Int)+1=((t::A).length:Nat):=by simp
   (conv=>whnf);refine sT ?_
   repeat refine sG ?_
   refine zbk (zw ?_);refine zoe (a:=t::A) (b:=B) (c:=[]) zz74 rfl rfl ?_;(conv=>whnf);refine ⟨_,Pck.zmf B s.config.packet hsz hm,rfl,zw ?_⟩
   repeat refine sG ?_
   refine zaa (c:=(0:Int)<=zcd s.config.packet B/\((A.length+1:Nat):Int)+zcd s.config.packet B<=((b.map Chunk.row).length:Int)) ⟨by omega,by rw [zy3,hz,zy6];omega⟩ (zw ?_);refine zdv (zw ?_);refine zoe (a:=t::A) (b:=B.take r) (c:=B.drop r) zz74 rfl (show (zcd s.config.packet B).toNat=_ by rw [r1];simp;omega) ?_;(conv=>whnf);refine ⟨_,Pck.zfr (B.take r) s.config.packet hszr,rfl,zw ?_⟩;refine sD ?_;by_cases ho:(Pck.zcv (B.take r) s.config.packet).2=0
   case pos =>
    rw [zy1 ho] at hP;refine zai ?_ ?_
    . simpa using ho
    (conv=>whnf);refine zaa (c:=((acc.map zay.row).length+1)*40<=140737488355328) zz14 (zw ?_)
    repeat refine sG ?_
    refine zaa (c:=(0:Int)<=zcd s.config.packet B/\zcd s.config.packet B<=(B.length:Int)/\((A.length+1:Nat):Int)+(B.length:Int)<=((b.map Chunk.row).length:Int)) ⟨by omega,by omega,by rw [zy3,hz,zy6];omega⟩ (zw ?_);refine hQ2 _ _ (zw ?_);exact ⟨⟨((t::(A++B.take r),B.drop r),n,acc++[⟨1,false,(Pck.zcv (B.take r) s.config.packet).1⟩]),by rw [i1];simp,by simp;omega,by simp;omega,by rw [<- i3,hP];simp⟩,(zbu (zhe [(900,some 51)]) zz6),by simp;omega⟩
   case neg =>
    rw [zy0 ho] at hP;refine zaf ?_ ?_
    . simpa using ho
    conv=>whnf
    repeat refine sG ?_
    refine zaa (c:=(0:Int)<=zcd s.config.packet B/\zcd s.config.packet B<=(B.length:Int)/\((A.length+1:Nat):Int)+(B.length:Int)<=((b.map Chunk.row).length:Int)) ⟨by omega,by omega,by rw [zy3,hz,zy6];omega⟩ (zw ?_);exact yy62
 case inr.inr =>
  have k2:acc=T:=by rw [<- k2];simp [zcb]
  subst k2;(conv=>whnf);refine hQ _ _ ?_;conv=>whnf
  (exact zby (zhe [(0,some 900)]))
end Snd
namespace Snd
open Ser
structure PF (j:Nat) (s:zab):Prop where
 g:yic s
 some:0<s.paths.length
 part:1<=s.config.part
 part2:s.config.part<2 ^ 30
 msg:∀ m∈s.queue,zsk s m
 chunk:∀ x∈s.out,Okc x.chunk
 bytes:Sco.total s.out+j*2 ^ 30<2 ^ 38
 few:s.out.length+s.queue.length<2 ^ 27
theorem PF.nfit {j:Nat} {s:zab} (h:PF j s):xdb s:=⟨h.g,h.some,h.part,h.part2,h.msg⟩
theorem zsk.same {s t:zab} {m:zag} (h:zsk s m) (h1:t.config=s.config) (h2:t.mids.length=s.mids.length) (h3:t.sched.had.length=s.sched.had.length):zsk t m:=by
 obtain ⟨⟨a1,a2,a3,a4,a5⟩,b1,b2,b3,b4⟩:=h;have e:zgw t m=zgw s m:=by unfold zgw;rw [h1]
 exact ⟨⟨a1,a2,by rw [h1];exact a3,by rw [h1];exact a4,fun hm=>by rw [e,h2];exact a5 hm⟩,by rw [h3];exact b1,b2,b3,b4⟩
theorem yit (id:Int):∀ (q:List zag) (s:zab),(∀ x∈s.out,Okc x.chunk)->∀ x∈(q.foldl (zef id) s).out,Okc x.chunk
 | [],s,h,x,hx=>h x hx
 | m::q,s,h,x,hx=>by
  refine yit id q (zef id s m) (fun y hy=>?_) x hx;unfold zef at hy;split at hy
  . rcases zy11.1 hy with hy | hy
    . exact h y hy
    . rw [zy9] at hy;subst hy;exact ⟨by simp [zhh],by simp [zhh]⟩
  . exact h y hy
theorem yqn {j:Nat} {s:zab} (h:PF j s) {id:Nat} (hid:id<s.fates.length):PF j (zev s id):=by
 obtain ⟨r,h1,h2,h3⟩:=zhq s id;have hs:=r.sum;refine ⟨zyk h.g hid,by rw [r.paths];exact h.some,by rw [r.config];exact h.part,by rw [r.config];exact h.part2,fun m hm=>(h.msg m (h2 m hm)).same r.config (by rw [r.mids]) (by rw [r.had]),fun x hx=>?_,by rw [h1];exact h.bytes,by have:=h.few;omega⟩;have hx':x∈((s.queue.foldl (zef id) {s with fates:=s.fates.set id 3}).out.map (Sco.zhb id)):=hx;obtain ⟨y,hy,rfl⟩:=zy18.1 hx';have:=yit id s.queue {s with fates:=s.fates.set id 3} h.chunk y hy;have e:(Sco.zhb id y).chunk=y.chunk:=by unfold Sco.zhb;split<;>rfl
 rw [e];exact this
theorem xab {j:Nat} {s:zab} (h:PF j s) {m:zag} (hm:0<=m.id/\m.id<s.fates.length):PF j (zju s m):=by
 unfold zju;split
 . obtain ⟨k,hk⟩:∃ k:Nat,m.id=k:=⟨m.id.toNat,by omega⟩
   rw [hk];exact yqn h zz0
 . exact h
theorem xae {j:Nat} {s:zab} (h:PF j s) {m:zbp} (hm:0<=m.id/\m.id<s.fates.length):PF j (zhk s m):=by
 unfold zhk;split
 . obtain ⟨k,hk⟩:∃ k:Nat,m.id=k:=⟨m.id.toNat,by omega⟩
   rw [hk];exact yqn h zz0
 . exact h
theorem yjb {j:Nat}:∀ (q:List zag) (s:zab),PF j s->(∀ m∈q,0<=m.id/\m.id<s.fates.length)->PF j (q.foldl zju s)/\Rest s (q.foldl zju s)
 | [],s,h,_=>⟨h,Rest.refl s⟩
 | m::q,s,h,hq=>by
  obtain ⟨-,r⟩:=zyc h.g (hq m zz4);obtain ⟨h1,r1⟩:=yjb q (zju s m) (xab h (hq m zz4)) fun x hx=>by rw [r.fates];exact hq x zz29
  exact ⟨h1,r.trans r1⟩
theorem yje {j:Nat}:∀ (q:List zbp) (s:zab),PF j s->(∀ m∈q,0<=m.id/\m.id<s.fates.length)->PF j (q.foldl zhk s)/\Rest s (q.foldl zhk s)
 | [],s,h,_=>⟨h,Rest.refl s⟩
 | m::q,s,h,hq=>by
  obtain ⟨-,r⟩:=zye h.g (hq m zz4);obtain ⟨h1,r1⟩:=yje q (zhk s m) (xae h (hq m zz4)) fun x hx=>by rw [r.fates];exact hq x zz29
  exact ⟨h1,r.trans r1⟩
theorem yqc {j:Nat} {s:zab} (h:PF j s):PF j (expire s)/\Rest s (expire s):=by
 obtain ⟨h1,r1⟩:=yjb s.queue s h h.g.qid;obtain ⟨h2,r2⟩:=yje (s.queue.foldl zju s).out _ h1 h1.g.xid;exact ⟨h2,r1.trans r2⟩
theorem zub:∀ (l:List zbp) (cum:Int) (sk:List zfo),sk.length<=8->(Sco.zdm cum sk l).2.length<=8
 | [],cum,sk,h=>h
 | x::l,cum,sk,h=>by
  simp only [Sco.zdm];split
  . exact h
  split
  . split
    . exact h
    . exact zub l _ _ zz0
  . exact zub l _ _ h
theorem xai (s:zab):Okc (xfg s):=⟨by simp [xfg],by have:=zub s.out s.cum [] zz4;show (Sco.zez s.out s.cum).2.length<_;unfold Sco.zez;omega⟩
theorem PF.paths {j:Nat} {s:zab} (h:PF j s) (ps:List Path) (f:Bool) (hp:ps.length=s.paths.length):PF j {s with paths:=ps,forward:=f}:=by
 obtain ⟨⟨⟨f1,f2,f3,f4,f5,f6,f7⟩,g2,g3,g4⟩,a1,a2,a3,a4,a5,a6,a7⟩:=h;exact ⟨⟨⟨f1,f2,f3,by show ps.length<_;omega,f5,f6,f7⟩,g2,g3,g4⟩,by show 0<ps.length;omega,a2,a3,fun m hm=>(a4 m hm).same rfl rfl rfl,a5,a6,a7⟩
theorem xdu {j:Nat} {s:zab} (h:PF j s) {k:Nat} {w:Path}:PF j (yoy s k w):=h.paths _ _ zz4
theorem xds {j:Nat} {s:zab} (h:PF j s) {i c:Nat} {x:zbp} {w:Path} (hx:s.out[i]?=some x):PF j (ybn s i c x w):=by
 obtain ⟨⟨⟨f1,f2,⟨b1,b2⟩,f4,f5,f6,f7⟩,g2,g3,g4⟩,a1,a2,a3,a4,a5,a6,a7⟩:=h;have hi:=(zy10.1 hx).1;have hl:(ybn s i c x w).out.length=s.out.length:=by show (s.out.set i _).length=_;simp
 have hp:(ybn s i c x w).paths.length=s.paths.length:=by show (s.paths.set c _).length=_;simp
 have ht:Sco.total (ybn s i c x w).out=Sco.total s.out:=by
  show Sco.total (s.out.set i (yal x c))=_;have he:s.out[i]=x:=(zy10.1 hx).2;simp only [Sco.total,zy102];rw [show (yal x c).chunk.data.length=(s.out.map fun s=>s.chunk.data.length)[i]'(by simpa using hi) by simp [yal,he],List.set_getElem_self]
 have hmem:∀ y∈(ybn s i c x w).out,∃ z∈s.out,y.id=z.id/\y.chunk=z.chunk:=fun y hy=>by
  rcases zy44 (show y∈s.out.set i (yal x c) from hy) with hy | hy
  . exact ⟨y,hy,rfl,rfl⟩
  . exact ⟨x,zy4 hx,by rw [hy];rfl,by rw [hy];rfl⟩
 refine ⟨⟨⟨f1,f2,⟨by rw [hl];exact b1,by rw [ht];exact b2⟩,by rw [hp];exact f4,f5,f6,f7⟩,by rw [hl];exact g2,g3,fun y hy=>?_⟩,by rw [hp];exact a1,a2,a3,fun m hm=>(a4 m hm).same rfl rfl rfl,fun y hy=>?_,by rw [ht];exact a6,by rw [hl];exact a7⟩
 . obtain ⟨z,hz,e,-⟩:=hmem y hy;rw [e];exact g4 z hz
 . obtain ⟨z,hz,-,e⟩:=hmem y hy;rw [e];exact a5 z hz
def nxS (s:zab) (k c:Nat) (m:zag) (w:Path):zab:={ybn (s2 s k m) s.out.length c (x0 s m) w with queue:=if ovr s m then s.queue.eraseIdx k else s.queue.set k (m2 s m)}
theorem xbd {j:Nat} {s:zab} (h:PF (j+1) s) {k c:Nat} {m:zag} {w:Path} (hm:s.queue[k]?=some m) (ho:s.out.length<60):PF j (nxS s k c m w):=by
 have hmf:=h.msg m (zy4 hm);obtain ⟨⟨⟨f1,f2,⟨b1,b2⟩,f4,f5,f6,f7⟩,g2,g3,g4⟩,a1,a2,a3,a4,a5,a6,a7⟩:=h;obtain ⟨n1,n2,n3⟩:=zpt (s:=s) (m:=m) a2 a3 hmf.sent hmf.left hmf.data;have hk:=(zy10.1 hm).1;have hmid:(zet s m).length=s.mids.length:=by
  unfold zet setAt;split
  . split
    . rfl
    . simp
  . rfl
 have hhad:(Sch.had s.sched {m with mid:=zci s m} (many s m) (ovr s m)).had.length=s.sched.had.length:=by
  unfold Sch.had;dsimp only;split<;>simp
 have hout:(nxS s k c m w).out=(s.out++[x0 s m]).set s.out.length (yal (x0 s m) c):=rfl;have hout2:(nxS s k c m w).out=s.out++[yal (x0 s m) c]:=by rw [hout,List.set_append_right _ _ (zy25 _),zy90];rfl
 have hq:∀ y∈(nxS s k c m w).queue,y∈s.queue\/(y=m2 s m/\ovr s m=false):=fun y hy=>by
  have hy:y∈(if ovr s m then s.queue.eraseIdx k else s.queue.set k (m2 s m)):=hy;cases ho:ovr s m with
  | true=>rw [ho,zy1 rfl] at hy;exact .inl (zy65 hy)
  | false =>
   rw [ho,zy0 (by decide)] at hy;rcases zy44 hy with hy | hy
   . exact .inl hy
   . exact .inr ⟨hy,rfl⟩
 have hql:(nxS s k c m w).queue.length<=s.queue.length:=by
  show (if ovr s m then s.queue.eraseIdx k else s.queue.set k (m2 s m)).length<=_;split
  . rw [zy92];split<;>omega
  . simp
 have hp:(nxS s k c m w).paths.length=s.paths.length:=by show (s.paths.set c _).length=_;simp
 have hd:(x0 s m).chunk.data.length<2 ^ 30:=by show ((m.message.data.drop _).take _).length<_;simp;omega
 have htot:Sco.total (nxS s k c m w).out=Sco.total s.out+(x0 s m).chunk.data.length:=by rw [hout2,Sco.zjt];simp [Sco.total,yal]
 have hlen:(nxS s k c m w).out.length=s.out.length+1:=by rw [hout2];simp
 have hm2:ovr s m=false->zsk s (m2 s m):=fun ho=>by
  have:m.sent+many s m≠m.message.data.length:=by
   intro e;have:=yyx s m;rw [ho,zy45] at this;exact this e
  obtain ⟨⟨c1,c2,c3,c4,c5⟩,d1,d2,d3,d4⟩:=hmf;refine ⟨⟨c1,c2,c3,c4,fun hneg=>?_⟩,d1,by show 0<=m.sent+many s m;omega,by show m.sent+many s m<m.message.data.length;omega,d4⟩;have hmn:m.mid<0:=by
   rcases zy139 m.mid 0 with h0 | h0
   . exact h0
   . have:zci s m=m.mid:=by rw [zci,zy0 (by omega)]
     have hneg:zci s m<0:=hneg;omega
  exact c5 hmn
 refine ⟨⟨⟨by omega,by rw [show (nxS s k c m w).sched.had.length=s.sched.had.length from hhad];exact f2,⟨by omega,by omega⟩,by omega,by rw [show (nxS s k c m w).mids.length=s.mids.length from hmid];exact f5,f6,fun y hy=>?_⟩,by omega,fun y hy=>?_,fun y hy=>?_⟩,by omega,a2,a3,fun y hy=>?_,fun y hy=>?_,by omega,by omega⟩
 . rcases hq y hy with hy | ⟨rfl,-⟩
   . exact f7 y hy
   . exact f7 m (zy4 hm)
 . show 0<=y.id/\y.id<s.fates.length
   rcases hq y hy with hy | ⟨rfl,-⟩
   . exact g3 y hy
   . exact g3 m (zy4 hm)
 . show 0<=y.id/\y.id<s.fates.length
   rw [hout2] at hy;rcases zy11.1 hy with hy | hy
   . exact g4 y hy
   . rw [zy9] at hy;subst hy;exact g3 m (zy4 hm)
 . have h0:zsk s y:=by
    rcases hq y hy with hy | ⟨rfl,ho⟩
    . exact a4 y hy
    . exact hm2 ho
   exact h0.same rfl hmid hhad
 . rw [hout2] at hy
   rcases zy11.1 hy with hy | hy
   . exact a5 y hy
   . rw [zy9] at hy;subst hy;exact ⟨by simp [yal,x0],by simp [yal,x0]⟩
theorem ywm {s:zab} {o:List (List Chunk)} {j:Nat} (h:PF (j+1) s) (hc:choose s<o.length):(nx s o=(⟨s,o⟩,false)/\next ⟨s,o⟩=none)\/∃ (k:Nat) (m:zag) (w:Path) (l:List Chunk),s.queue[k]?=some m/\s.out.length<60/\o[choose s]?=some l /\
 nx s o=(⟨nxS s k (choose s) m w,o.set (choose s) (l++[(x0 s m).chunk])⟩,true)/\next ⟨s,o⟩=some ⟨nxS s k (choose s) m w,o.set (choose s) (l++[(x0 s m).chunk])⟩:=by
 obtain ⟨-,hc2⟩:=zdw h.some;obtain ⟨w,hw⟩:∃ w,s.paths[choose s]?=some w:=⟨_,zy2 hc2⟩
 obtain ⟨l,hl⟩:∃ l,o[choose s]?=some l:=⟨_,zy2 hc⟩
 cases hn:next ⟨s,o⟩ with
 | none=>exact .inl ⟨by rw [nx,hn],rfl⟩
 | some q =>
  right
  have hn':=hn;unfold next at hn';split at hn'
  . cases hn'
  rename_i c0;have c0:=not_or.1 c0;have c1:=not_or.1 c0.2;cases hq:s.queue[(zeq s).toNat]? with
  | none=>simp only [hq] at hn';cases hn'
  | some m =>
   simp only [hq] at hn';split at hn'
   . cases hn'
   . have hn':=Option.some.inj hn'
     rw [zff rfl hw hl] at hn';refine ⟨(zeq s).toNat,m,w,l,hq,by have h2:=c1.2;dsimp only at h2;omega,hl,?_,?_⟩
     . rw [nx,hn];simp only;rw [<- hn'];rfl
     . rw [<- hn'];rfl
end Snd
namespace Snd
open Ser
structure PO (g:Config) (j n k:Nat) (p:zgn):Prop where
 pf:PF j p.s
 paths:p.s.paths.length=n
 outs:p.out.length=n
 config:p.s.config=g
 most:∀ l∈p.out,l.length<=k/\∀ c∈l,Okc c
theorem PO.mono {g:Config} {j n k k':Nat} {p:zgn} (h:PO g j n k p) (hk:k<=k'):PO g j n k' p:=⟨h.pf,h.paths,h.outs,h.config,fun l hl=>⟨zy84 (h.most l hl).1 hk,(h.most l hl).2⟩⟩
theorem zue {o:List (List Chunk)} {k c:Nat} {l:List Chunk} {x:Chunk} (h:∀ l∈o,l.length<=k/\∀ c∈l,Okc c) (hl:o[c]?=some l) (hx:Okc x):∀ m∈o.set c (l++[x]),m.length<=k+1/\∀ c∈m,Okc c:=fun m hm=>by
 rcases zy44 hm with hm | rfl
 . obtain ⟨h1,h2⟩:=h m hm;exact ⟨by omega,h2⟩
 . obtain ⟨h1,h2⟩:=h l (zy4 hl)
   refine ⟨by simp;omega,fun c hc=>?_⟩;rcases zy11.1 hc with hc | hc
   . exact h2 c hc
   . rw [zy9] at hc;subst hc;exact hx
theorem ypi {g:Config} {j n k c:Nat} {p:zgn} (h:PO g j n k p) (hc:c<n) (i:Nat):PO g j n (k+1) (zdf c p i):=by
 obtain ⟨s,o⟩:=p;obtain ⟨w,hw⟩:∃ w,s.paths[c]?=some w:=⟨_,zy2 (by have:=h.paths;dsimp only at this;omega)⟩
 obtain ⟨l,hl⟩:∃ l,o[c]?=some l:=⟨_,zy2 (by have:=h.outs;dsimp only at this;omega)⟩
 cases hx:s.out[i]? with
 | none=>simp only [zdf,hx];exact h.mono zz0
 | some x =>
  by_cases d:x.state=3/\w.zbd<w.window
  . rw [znt hx hw hl d]
    exact ⟨xds h.pf hx,by show (s.paths.set c _).length=_;rw [zy26];exact h.paths,by show (o.set c _).length=_;rw [zy26];exact h.outs,h.config,zue h.most hl (h.pf.chunk x (zy4 hx))⟩
  . rw [zrt hx hw d];exact h.mono zz0
theorem yat {g:Config} {j n c:Nat} (hc:c<n):∀ (L:List Nat) {k:Nat} {p:zgn},PO g j n k p->PO g j n (k+L.length) (L.foldl (zdf c) p)
 | [],_,_,h=>h
 | i::L,k,p,h=>(yat hc L (ypi h hc i)).mono zz3
theorem zxp {g:Config} {j n k:Nat} {p:zgn} (h:PO g j n k p):PO g j n (k+p.s.out.length) (again p):=by
 obtain ⟨-,hc2⟩:=zdw h.pf.some;have:=yat (show choose p.s<n by rw [<- h.paths];exact hc2) (List.range p.s.out.length) h;rw [List.length_range] at this;exact this
theorem zlz {g:Config} {j n k:Nat} {p:zgn} (h:PO g j n k p):PO g j n (k+1) (forward p):=by
 obtain ⟨s,o⟩:=p;obtain ⟨-,hc2⟩:=zdw h.pf.some;dsimp only at hc2;obtain ⟨l,hl⟩:∃ l,o[choose s]?=some l:=⟨_,zy2 (by have:=h.outs;have:=h.paths;dsimp only at *;omega)⟩
 obtain ⟨w,hw⟩:∃ w,s.paths[choose s]?=some w:=⟨_,zy2 hc2⟩
 unfold forward;split
 . exact h.mono zz0
 . simp only [setAt,hl,hw]
   exact ⟨xdu h.pf (k:=choose s) (w:=w),by show (s.paths.set _ _).length=_;rw [zy26];exact h.paths,by show (o.set _ _).length=_;rw [zy26];exact h.outs,h.config,zue h.most hl (xai s)⟩
theorem znw {j:Nat} {s:zab} (h:PF j s):PO s.config j s.paths.length 0 ⟨expire s,List.replicate s.paths.length []⟩:=by
 obtain ⟨h1,r⟩:=yqc h;exact ⟨h1,by rw [show (zgn.mk (expire s) _).s=expire s from rfl,r.paths],by simp,r.config,fun l hl=>by rw [zy57 hl];simp⟩
theorem yha {g:Config} {j n k:Nat} {p:zgn} (h:PO g (j+1) n k p):(nx p.s p.out=(p,false)/\next p=none)\/∃ q,nx p.s p.out=(q,true)/\next p=some q/\p.s.out.length<60/\q.s.out.length=p.s.out.length+1/\PO g j n (k+1) q:=by
 obtain ⟨s,o⟩:=p;obtain ⟨-,hc2⟩:=zdw h.pf.some;have hp:=h.paths;have ho:=h.outs;dsimp only at hp ho hc2;rcases ywm h.pf (show choose s<o.length by omega) with h1 | ⟨i,m,w,l,h1,h2,h3,h4,h5⟩
 . exact .inl h1
 . refine .inr ⟨_,h4,h5,h2,by simp [nxS,ybn,s2],xbd h.pf h1 h2,by show (s.paths.set _ _).length=_;rw [zy26];exact hp,by show (o.set _ _).length=_;rw [zy26];exact ho,h.config,zue h.most h3 ⟨by simp [x0],by simp [x0]⟩⟩
theorem zwp {p:zgn} (h:next p=none) (j:Nat):zgx j p=p:=by cases j<;>simp [zgx,h]
end Snd
namespace Snd
open Ser
theorem ysd {α:Type} {l:List α} (h:l.length=1):∃ a,l=[a]:=by
 match l,h with
 | [a],_=>exact ⟨a,rfl⟩
theorem yuj {α:Type} {l:List α} (h:l.length=2):∃ a b,l=[a,b]:=by
 match l,h with
 | [a,b],_=>exact ⟨a,b,rfl⟩
abbrev xgs (t:zab) (a:List Chunk) (L:List (Nat×zad)):List (Nat×zad):=(2,.live (.cells 32 yow))::(16,.live (.cells 139 (yut t (.own 900) (.own 901) (.own 902) (.own 903) (.own 904) (.own 905) (.own 14))))::zxa t 900 901 902 903 904 905 ((14,.live (.cells 145 [.own 906]))::(906,xcv a)::L)
abbrev xgt (t:zab) (a b:List Chunk) (L:List (Nat×zad)):List (Nat×zad):=(2,.live (.cells 32 yow))::(16,.live (.cells 139 (yut t (.own 900) (.own 901) (.own 902) (.own 903) (.own 904) (.own 905) (.own 14))))::zxa t 900 901 902 903 904 905 ((14,.live (.cells 145 [.own 906,.own 907]))::(906,xcv a)::(907,xcv b)::L)
theorem zfz {α β:Type} (f:α->β) (A:List α) (p:α) (B:List β):(A++[p]).map f++B=A.map f++f p::B:=by simp
theorem yhq (s:zab) (h:PF 62 s) (hm:inI s.config.packet) (h1p:s.paths.length=1) :
 zao Tryz.prog 39 [s.hv] zae (.tup [xbz (zlk s).1 0 1 2 3 4 5,.own 6]) (lk .free (zxa (zlk s).1 0 1 2 3 4 5 [(6,zjk (zlk s).2)])):=by
 have h0:=h.g.fit;have e1:PO s.config 62 1 0 ⟨expire s,[[]]⟩:=by have:=znw h;rw [h1p] at this;exact this
 have e2:=zlz e1;have e3:=zxp e2;have hF:zgx 61 (again (forward ⟨expire s,[[]]⟩))=zkt s:=by rw [zkt,h1p];rfl
 have hfew:=e2.pf.few;rw [show zlk s=(you (zkt s).s,zcb s.config.packet 0 (zkt s).out) from rfl];generalize zkt s=F at hF ⊢;dsimp only;refine zam mixed Tryz.func39 zz5 [] (fun _=>.inl rfl) ?_;(conv=>whnf)
 (refine zar [(0,20),(1,21),(2,22),(3,23),(4,24),(5,25)]  ?_;(conv=>whnf);refine dO (zcy s h0) ?_)
 refine zaa ⟨by omega,rfl,by rw [zy3,h1p];decide⟩ (zw ?_);refine ⟨1,by rw [zy3,h1p],by decide,zw ?_⟩;refine sD ?_
 (refine zac [] [(1000,16),(1001,20),(1002,21),(1003,22),(1004,23),(1005,24),(1006,25),(1007,14)] [(0,930),(1,931),(2,932),(3,933),(4,934),(5,935)] ?_;(conv=>whnf);refine dG (yej s h.g) ?_)
 (refine zac [] [(1000,16),(1001,930),(1002,931),(1003,932),(1004,933),(1005,934),(1006,935),(1007,14)] [(0,940)] ?_;(conv=>whnf);refine dG (yaa (expire s) zz81 e1.paths) ?_)
 generalize forward ⟨expire s,[[]]⟩=P1 at e2 e3 hF hfew ⊢;obtain ⟨t1,o1⟩:=P1;obtain ⟨a1,rfl⟩:=ysd e2.outs
 (refine zac [] [(1000,16),(1001,930),(1002,931),(1003,932),(1004,933),(1005,934),(1006,935),(1007,14),(1008,940)] [(0,950)] ?_;(conv=>whnf);refine dG (yhm t1 a1 (by dsimp only at hfew;omega) e2.paths (by have:=(e2.most a1 (by simp)).1;omega)) ?_)
 generalize again ⟨t1,[a1]⟩=P2 at e3 hF ⊢;obtain ⟨t2,o2⟩:=P2;obtain ⟨a2,rfl⟩:=ysd e3.outs;dsimp only at hfew;refine ⟨{x:Nat×zab×List Chunk // zgx x.1 ⟨x.2.1,[x.2.2]⟩=F/\PO s.config (x.1+1) 1 (2 ^ 27+99-x.1) ⟨x.2.1,[x.2.2]⟩/\61<=x.1+x.2.1.out.length/\x.1<=61},
  fun | ⟨(j,t,a),_⟩=>hs 106 [(2,.ptr 2 0),(3,zgc),(4,.ptr 16 0)] (xgs t a []),fun x=>x.1.1,⟨(61,t2,a2),hF,e3.mono zz66,by dsimp only;omega,by dsimp only;omega⟩,?_,?_⟩
 . exact (zdi [(2,some 2),(16,some 16),(14,some 14),(900,some 930),(901,some 931),(902,some 932),(903,some 933),(904,some 934),(905,some 935),(906,some 950)])
 rintro ⟨⟨j,t,a⟩,k1,k2,k3,k4⟩;dsimp only at k1 k2 k3 k4;have km:=k2.most a zz4;(conv=>whnf);have hn:=zqj t a k2.pf.nfit k2.paths zz0;rcases yha k2 with ⟨n1,n2⟩ | ⟨q,n1,n2,n3,n4,n5⟩
 case inr =>
  obtain ⟨u,o⟩:=q;have n6:=n5.outs;obtain ⟨b,rfl⟩:=ysd n6;dsimp only at n1 n3 n4;rw [n1] at hn
  (refine zac [] [(1000,16),(1001,900),(1002,901),(1003,902),(1004,903),(1005,904),(1006,905),(1007,14),(1008,906)] [(0,930),(1,931),(2,932),(3,933),(4,934),(5,935),(6,950)] ?_;(conv=>whnf);refine dG hn ?_)
  obtain ⟨j,rfl⟩:∃ j',j=j'+1:=⟨j-1,by omega⟩
  rw [zgx,n2] at k1;exact ⟨⟨(j,u,b),k1,n5.mono zz0,by dsimp only;omega,by dsimp only;omega⟩,(zdi [(2,some 2),(16,some 16),(14,some 14),(900,some 930),(901,some 931),(902,some 932),(903,some 933),(904,some 934),(905,some 935),(906,some 950)]),by dsimp only;omega⟩
 case inl =>
  dsimp only at n1;rw [n1] at hn;rw [zwp n2] at k1;subst k1
  (refine zac [] [(1000,16),(1001,900),(1002,901),(1003,902),(1004,903),(1005,904),(1006,905),(1007,14),(1008,906)] [(0,930),(1,931),(2,932),(3,933),(4,934),(5,935),(6,950)] ?_;(conv=>whnf);refine dG hn ?_)
  (refine zac [] [(1000,932)] [(0,960)] ?_;(conv=>whnf);refine dG (Sco.zem t.out t.cum zz82) ?_)
  refine sD ?_;generalize hN:(Sco.zez t.out t.cum).1=N;have kfew:=k2.pf.few;have kpl:=k2.paths;dsimp only at kfew kpl;refine ⟨{x:List Path×List Path // t.paths=x.1++x.2},fun | ⟨(A,B),_⟩=>hs 106 [(2,.ptr 2 0),(3,zgc),(4,.ptr 16 0),(5,i64 N),(44,i64 t.paths.length),(45,i64 A.length)] (xgs {t with paths:=A.map (zgo t N)++B} a []),fun x=>x.1.2.length,⟨([],t.paths),rfl⟩,?_,?_⟩
  . exact (zdi [(2,some 2),(16,some 16),(14,some 14),(900,some 930),(901,some 931),(902,some 932),(903,some 933),(904,some 934),(905,some 935),(906,some 950)])
  rintro ⟨⟨A,B⟩,h⟩;dsimp only at h;(conv=>whnf);cases B with
  | cons p B =>
   have hz:=zbz h;refine sT ?_;refine sOm ?_;refine zak (a:=A.map (zgo t N)) (b:=B) (s:=p) rfl zz4 (zw ?_);by_cases d1:p.zbd>0
   case pos =>
    rw [show decide (p.zbd>0)=true from zy19 d1];refine zai rfl (zw ?_)
    repeat refine sG ?_
    refine zak (a:=A.map (zgo t N)) (b:=B) (s:=p) rfl zz4 (zw ?_);by_cases d2:p.zcw=0
    case pos =>
     rw [show (p.zcw==0)=true from zy37.2 d2];(conv=>whnf);refine zak (a:=A.map (zgo t N)) (b:=B) (s:=p) rfl zz4 (zw ?_);refine sR ?_;refine zak (a:=A.map (zgo t N)) (b:=B) (s:=p) rfl zz4 (zw ?_);refine sD ?_;refine sF ?_;exact ⟨⟨(A++[p],B),zan h⟩,(zcl ((2,some 2)::((16,some 16)::((14,some 14)::(pJ7 [])))) zz16),by simp⟩
    case neg =>
     rw [show (p.zcw==0)=false from zy15.2 d2];(conv=>whnf);refine zak (a:=A.map (zgo t N)) (b:=B) (s:=p) rfl zz4 (zw ?_);by_cases d3:p.zbd=0
     case pos =>
      rw [show (p.zbd==0)=true from zy37.2 d3];refine zai rfl (zw ?_)
      repeat refine sG ?_
      by_cases d4:N=t.cum
      case pos =>
       rw [show (N==t.cum)=true from zy37.2 d4];(conv=>whnf);have d6:zgo t N p={p with zcw:=0}:=by rw [zgo,zy0 (fun h=>d2 h.2),zy1 ⟨d3,d4⟩]
       exact yy64
      case neg =>
       rw [show (N==t.cum)=false from zy15.2 d4];(conv=>whnf);have d6:zgo t N p=p:=by rw [zgo,zy0 (fun h=>d2 h.2),zy0 (fun h=>d4 h.2)]
       exact yy25
     case neg =>
      rw [show (p.zbd==0)=false from zy15.2 d3];(conv=>whnf);have d6:zgo t N p=p:=by rw [zgo,zy0 (fun h=>d2 h.2),zy0 (fun h=>d3 h.1)]
      exact yy25
   case neg =>
    rw [show decide (p.zbd>0)=false from zy30 d1];(conv=>whnf);refine zak (a:=A.map (zgo t N)) (b:=B) (s:=p) rfl zz4 (zw ?_);by_cases d3:p.zbd=0
    case pos =>
     rw [show (p.zbd==0)=true from zy37.2 d3];refine zai rfl (zw ?_)
     repeat refine sG ?_
     by_cases d4:N=t.cum
     case pos =>
      rw [show (N==t.cum)=true from zy37.2 d4];(conv=>whnf);have d6:zgo t N p={p with zcw:=0}:=by rw [zgo,zy0 (fun h=>d1 h.1),zy1 ⟨d3,d4⟩]
      exact yy64
     case neg =>
      rw [show (N==t.cum)=false from zy15.2 d4];(conv=>whnf);have d6:zgo t N p=p:=by rw [zgo,zy0 (fun h=>d1 h.1),zy0 (fun h=>d4 h.2)]
      exact yy25
    case neg =>
     rw [show (p.zbd==0)=false from zy15.2 d3];(conv=>whnf);have d6:zgo t N p=p:=by rw [zgo,zy0 (fun h=>d1 h.1),zy0 (fun h=>d3 h.1)]
     exact yy25
  | nil =>
   have hz:=zco h;rw [zy7] at h;refine sN ?_
   (refine zac [] [(1000,16),(1001,900),(1002,901),(1003,902),(1004,903),(1005,904),(1006,905),(1007,14),(1008,906)] [(0,970)] ?_;(conv=>whnf);refine dG (yad {t with paths:=A.map (zgo t N)++[]} a zz55 zz0 km.2) ?_)
   exact yy13
theorem yhr (s:zab) (h:PF 62 s) (hm:inI s.config.packet) (h1p:s.paths.length=2) :
 zao Tryz.prog 39 [s.hv] zae (.tup [xbz (zlk s).1 0 1 2 3 4 5,.own 6]) (lk .free (zxa (zlk s).1 0 1 2 3 4 5 [(6,zjk (zlk s).2)])):=by
 have h0:=h.g.fit;have e1:PO s.config 62 2 0 ⟨expire s,[[],[]]⟩:=by have:=znw h;rw [h1p] at this;exact this
 have e2:=zlz e1;have e3:=zxp e2;have hF:zgx 61 (again (forward ⟨expire s,[[],[]]⟩))=zkt s:=by rw [zkt,h1p];rfl
 have hfew:=e2.pf.few;rw [show zlk s=(you (zkt s).s,zcb s.config.packet 0 (zkt s).out) from rfl];generalize zkt s=F at hF ⊢;dsimp only;refine zam mixed Tryz.func39 zz5 [] (fun _=>.inl rfl) ?_;(conv=>whnf)
 (refine zar [(0,20),(1,21),(2,22),(3,23),(4,24),(5,25)]  ?_;(conv=>whnf);refine dO (zcy s h0) ?_)
 refine zaa ⟨by omega,rfl,by rw [zy3,h1p];decide⟩ (zw ?_);refine ⟨2,by rw [zy3,h1p],by decide,zw ?_⟩;refine sD ?_
 (refine zac [] [(1000,16),(1001,20),(1002,21),(1003,22),(1004,23),(1005,24),(1006,25),(1007,14)] [(0,930),(1,931),(2,932),(3,933),(4,934),(5,935)] ?_;(conv=>whnf);refine dG (yek s h.g) ?_)
 (refine zac [] [(1000,16),(1001,930),(1002,931),(1003,932),(1004,933),(1005,934),(1006,935),(1007,14)] [(0,940),(1,941)] ?_;(conv=>whnf);refine dG (yab (expire s) zz81 e1.paths) ?_)
 generalize forward ⟨expire s,[[],[]]⟩=P1 at e2 e3 hF hfew ⊢;obtain ⟨t1,o1⟩:=P1;obtain ⟨a1,b1,rfl⟩:=yuj e2.outs
 (refine zac [] [(1000,16),(1001,930),(1002,931),(1003,932),(1004,933),(1005,934),(1006,935),(1007,14),(1008,940),(1009,941)] [(0,950),(1,951)] ?_;(conv=>whnf);refine dG (yhn t1 a1 b1 (by dsimp only at hfew;omega) e2.paths (by have:=(e2.most a1 (by simp)).1;have:=(e2.most b1 (by simp)).1;omega)) ?_)
 generalize again ⟨t1,[a1,b1]⟩=P2 at e3 hF ⊢;obtain ⟨t2,o2⟩:=P2;obtain ⟨a2,b2,rfl⟩:=yuj e3.outs;dsimp only at hfew;refine ⟨{x:Nat×zab×List Chunk×List Chunk // zgx x.1 ⟨x.2.1,[x.2.2.1,x.2.2.2]⟩=F/\PO s.config (x.1+1) 2 (2 ^ 27+99-x.1) ⟨x.2.1,[x.2.2.1,x.2.2.2]⟩/\61<=x.1+x.2.1.out.length/\x.1<=61},
  fun | ⟨(j,t,a,b),_⟩=>hs 106 [(2,.ptr 2 0),(3,zgc),(4,.ptr 16 0)] (xgt t a b []),fun x=>x.1.1,⟨(61,t2,a2,b2),hF,e3.mono zz66,by dsimp only;omega,by dsimp only;omega⟩,?_,?_⟩
 . exact (zdi [(2,some 2),(16,some 16),(14,some 14),(900,some 930),(901,some 931),(902,some 932),(903,some 933),(904,some 934),(905,some 935),(906,some 950),(907,some 951)])
 rintro ⟨⟨j,t,a,b⟩,k1,k2,k3,k4⟩;dsimp only at k1 k2 k3 k4;have km:=k2.most a zz4;have kn:=k2.most b zz4;(conv=>whnf);have hn:=yof t a b k2.pf.nfit k2.paths zz0;rcases yha k2 with ⟨n1,n2⟩ | ⟨q,n1,n2,n3,n4,n5⟩
 case inr =>
  obtain ⟨u,o⟩:=q;have n6:=n5.outs;obtain ⟨a',b',rfl⟩:=yuj n6;dsimp only at n1 n3 n4;rw [n1] at hn
  (refine zac [] [(1000,16),(1001,900),(1002,901),(1003,902),(1004,903),(1005,904),(1006,905),(1007,14),(1008,906),(1009,907)] [(0,930),(1,931),(2,932),(3,933),(4,934),(5,935),(6,950),(7,951)] ?_;(conv=>whnf);refine dG hn ?_)
  obtain ⟨j,rfl⟩:∃ j',j=j'+1:=⟨j-1,by omega⟩
  rw [zgx,n2] at k1;exact ⟨⟨(j,u,a',b'),k1,n5.mono zz0,by dsimp only;omega,by dsimp only;omega⟩,(zdi [(2,some 2),(16,some 16),(14,some 14),(900,some 930),(901,some 931),(902,some 932),(903,some 933),(904,some 934),(905,some 935),(906,some 950),(907,some 951)]),by dsimp only;omega⟩
 case inl =>
  dsimp only at n1;rw [n1] at hn;rw [zwp n2] at k1;subst k1
  (refine zac [] [(1000,16),(1001,900),(1002,901),(1003,902),(1004,903),(1005,904),(1006,905),(1007,14),(1008,906),(1009,907)] [(0,930),(1,931),(2,932),(3,933),(4,934),(5,935),(6,950),(7,951)] ?_;(conv=>whnf);refine dG hn ?_)
  (refine zac [] [(1000,932)] [(0,960)] ?_;(conv=>whnf);refine dG (Sco.zem t.out t.cum zz82) ?_)
  refine sD ?_;generalize hN:(Sco.zez t.out t.cum).1=N;have kfew:=k2.pf.few;have kpl:=k2.paths;dsimp only at kfew kpl;refine ⟨{x:List Path×List Path // t.paths=x.1++x.2},fun | ⟨(A,B),_⟩=>hs 106 [(2,.ptr 2 0),(3,zgc),(4,.ptr 16 0),(5,i64 N),(44,i64 t.paths.length),(45,i64 A.length)] (xgt {t with paths:=A.map (zgo t N)++B} a b []),fun x=>x.1.2.length,⟨([],t.paths),rfl⟩,?_,?_⟩
  . exact (zdi [(2,some 2),(16,some 16),(14,some 14),(900,some 930),(901,some 931),(902,some 932),(903,some 933),(904,some 934),(905,some 935),(906,some 950),(907,some 951)])
  rintro ⟨⟨A,B⟩,h⟩;dsimp only at h;(conv=>whnf);cases B with
  | cons p B =>
   have hz:=zbz h;refine sT ?_;refine sOm ?_;refine zak (a:=A.map (zgo t N)) (b:=B) (s:=p) rfl zz4 (zw ?_);by_cases d1:p.zbd>0
   case pos =>
    rw [show decide (p.zbd>0)=true from zy19 d1];refine zai rfl (zw ?_)
    repeat refine sG ?_
    refine zak (a:=A.map (zgo t N)) (b:=B) (s:=p) rfl zz4 (zw ?_);by_cases d2:p.zcw=0
    case pos =>
     rw [show (p.zcw==0)=true from zy37.2 d2];(conv=>whnf);refine zak (a:=A.map (zgo t N)) (b:=B) (s:=p) rfl zz4 (zw ?_);refine sR ?_;refine zak (a:=A.map (zgo t N)) (b:=B) (s:=p) rfl zz4 (zw ?_);refine sD ?_;refine sF ?_;exact ⟨⟨(A++[p],B),zan h⟩,(zcl ((2,some 2)::((16,some 16)::((14,some 14)::(pJ8 [])))) zz16),by simp⟩
    case neg =>
     rw [show (p.zcw==0)=false from zy15.2 d2];(conv=>whnf);refine zak (a:=A.map (zgo t N)) (b:=B) (s:=p) rfl zz4 (zw ?_);by_cases d3:p.zbd=0
     case pos =>
      rw [show (p.zbd==0)=true from zy37.2 d3];refine zai rfl (zw ?_)
      repeat refine sG ?_
      by_cases d4:N=t.cum
      case pos =>
       rw [show (N==t.cum)=true from zy37.2 d4];(conv=>whnf);have d6:zgo t N p={p with zcw:=0}:=by rw [zgo,zy0 (fun h=>d2 h.2),zy1 ⟨d3,d4⟩]
       exact yy65
      case neg =>
       rw [show (N==t.cum)=false from zy15.2 d4];(conv=>whnf);have d6:zgo t N p=p:=by rw [zgo,zy0 (fun h=>d2 h.2),zy0 (fun h=>d4 h.2)]
       exact yy26
     case neg =>
      rw [show (p.zbd==0)=false from zy15.2 d3];(conv=>whnf);have d6:zgo t N p=p:=by rw [zgo,zy0 (fun h=>d2 h.2),zy0 (fun h=>d3 h.1)]
      exact yy26
   case neg =>
    rw [show decide (p.zbd>0)=false from zy30 d1];(conv=>whnf);refine zak (a:=A.map (zgo t N)) (b:=B) (s:=p) rfl zz4 (zw ?_);by_cases d3:p.zbd=0
    case pos =>
     rw [show (p.zbd==0)=true from zy37.2 d3];refine zai rfl (zw ?_)
     repeat refine sG ?_
     by_cases d4:N=t.cum
     case pos =>
      rw [show (N==t.cum)=true from zy37.2 d4];(conv=>whnf);have d6:zgo t N p={p with zcw:=0}:=by rw [zgo,zy0 (fun h=>d1 h.1),zy1 ⟨d3,d4⟩]
      exact yy65
     case neg =>
      rw [show (N==t.cum)=false from zy15.2 d4];(conv=>whnf);have d6:zgo t N p=p:=by rw [zgo,zy0 (fun h=>d1 h.1),zy0 (fun h=>d4 h.2)]
      exact yy26
    case neg =>
     rw [show (p.zbd==0)=false from zy15.2 d3];(conv=>whnf);have d6:zgo t N p=p:=by rw [zgo,zy0 (fun h=>d1 h.1),zy0 (fun h=>d3 h.1)]
     exact yy26
  | nil =>
   have hz:=zco h;rw [zy7] at h;refine sN ?_
   (refine zac [] [(1000,16),(1001,900),(1002,901),(1003,902),(1004,903),(1005,904),(1006,905),(1007,14),(1008,906),(1009,907)] [(0,970)] ?_;(conv=>whnf);refine dG (yae {t with paths:=A.map (zgo t N)++[]} a b zz55 zz0 zz0 km.2 kn.2) ?_)
   exact yy13
end Snd
namespace Snd
open Ser
theorem zln (s:zab) (h:PF 62 s) (hm:inI s.config.packet) (hp:s.paths.length=1\/s.paths.length=2) :
 zao Tryz.prog 39 [s.hv] zae (.tup [(zlk s).1.hv,.p (.sl 3 ((zlk s).2.map zay.row))]) zae:=by
 rcases hp with hp | hp
 . refine zcg Tryz.func39 (yhq s h hm hp) ?_
   generalize zlk s=d;(conv=>whnf)
   rfl
 . refine zcg Tryz.func39 (yhr s h hm hp) ?_
   generalize zlk s=d;(conv=>whnf)
   rfl
theorem zur (s:zab) (hs:Fit s):zao Tryz.prog 33 [s.hv] zae s.hv zae:=by
 refine zcg Tryz.func33 (zcy s hs) ?_;(conv=>whnf)
 rfl
def zpe (c:Config):Int :=
 if c.streams<1\/c.streams>4\/c.paths<1\/c.paths>2\/c.part<1\/c.part>16\/c.packet<40\/c.packet>120\/c.waiting<1\/c.waiting>12\/c.first<0\/c.first>=65536 then 3 else
 if (c).turns<1\/(c).turns>5 then 1 else 0
theorem yue (c:Config):zao Tryz.prog 29 [c.hv] zae (i64 (zpe c)) zae:=by
 refine zas mixed Tryz.func29 zz5 ?_;(conv=>whnf)
 (repeat' (first | (refine zcs ?_;conv=>whnf) | (refine zaa ?_ ?_;(first | kernel_rfl | decide);conv=>whnf) | (refine zbg ?_ ?_;kernel_rfl;conv=>whnf) | (refine znp.go ?_;conv=>whnf) | (refine zah (fun h=>?_) (fun h=>?_)<;>conv=>whnf)))
 all_goals try simp only [zy51,zy64,zy37,zy15,zy34,zy45] at *
 all_goals first | (simp only [zpe];(repeat' split)<;>first | rfl | omega) | trace_state
end Snd
namespace Snd
open Ser
def zrq (s:zab) (m:Message):zab×Int×Int:=if zfq s m=0 then (zjm s m,(s.fates.length:Int),0) else (noS,0,zfq s m)
theorem zsf {s:zab} {m:Message} {e:Int} (h:zfq s m=e) (he:e≠0):zrq s m=(noS,0,e):=by rw [zrq,h,zy0 he]
theorem yee {s:zab} {m:Message} (h:zfq s m=0):zrq s m=(zjm s m,(s.fates.length:Int),0):=by rw [zrq,zy1 h]
theorem yol (s:zab) (m:Message) (hs:Fit s) (hd:m.data.length<2 ^ 38) :
 zao Tryz.prog 31 [s.hv,m.hv] zae (.tup [xbz (zrq s m).1 0 1 2 3 4 5,i64 (zrq s m).2.1,i64 (zrq s m).2.2]) (lk .free (zxa (zrq s m).1 0 1 2 3 4 5 [])):=by
 have hs':=hs;obtain ⟨h1,h2,h3,h4,h5,h6,h7⟩:=hs;refine zam mixed Tryz.func31 zz5 [] (fun _=>.inl rfl) ?_;(conv=>whnf)
 (repeat' (first | (refine zcs ?_;conv=>whnf) | (refine zaa ?_ ?_;(first | kernel_rfl | decide);conv=>whnf) | (refine zbg ?_ ?_;kernel_rfl;conv=>whnf) | (refine znp.go ?_;conv=>whnf) | (refine zah (fun h=>?_) (fun h=>?_)<;>conv=>whnf)))
 all_goals try simp only [zy51,zy64,zy37,zy15,zy34,zy45,zy3] at *
 all_goals first
  | (rw [zsf (e:=3) (by simp only [zfq];(repeat' split)<;>first | rfl | omega) (by decide)];exact zal [(0,none),(1,none),(2,none),(3,none),(4,none),(5,none)] rfl rfl trivial rfl rfl ⟨⟨rfl,.inr ⟨rfl,rfl⟩⟩,⟨rfl,.inr ⟨rfl,rfl⟩⟩,⟨rfl,.inr ⟨rfl,rfl⟩⟩,⟨rfl,.inr ⟨rfl,rfl⟩⟩,⟨rfl,.inr ⟨rfl,rfl⟩⟩,⟨rfl,.inr ⟨rfl,rfl⟩⟩,trivial⟩)
  | (rw [zsf (e:=4) (by simp only [zfq];(repeat' split)<;>first | rfl | omega) (by decide)];exact zal [(0,none),(1,none),(2,none),(3,none),(4,none),(5,none)] rfl rfl trivial rfl rfl ⟨⟨rfl,.inr ⟨rfl,rfl⟩⟩,⟨rfl,.inr ⟨rfl,rfl⟩⟩,⟨rfl,.inr ⟨rfl,rfl⟩⟩,⟨rfl,.inr ⟨rfl,rfl⟩⟩,⟨rfl,.inr ⟨rfl,rfl⟩⟩,⟨rfl,.inr ⟨rfl,rfl⟩⟩,trivial⟩)
  | (rw [zsf (e:=7) (by simp only [zfq];(repeat' split)<;>first | rfl | omega) (by decide)];exact zal [(0,none),(1,none),(2,none),(3,none),(4,none),(5,none)] rfl rfl trivial rfl rfl ⟨⟨rfl,.inr ⟨rfl,rfl⟩⟩,⟨rfl,.inr ⟨rfl,rfl⟩⟩,⟨rfl,.inr ⟨rfl,rfl⟩⟩,⟨rfl,.inr ⟨rfl,rfl⟩⟩,⟨rfl,.inr ⟨rfl,rfl⟩⟩,⟨rfl,.inr ⟨rfl,rfl⟩⟩,trivial⟩)
  | rw [yee (by simp only [zfq];(repeat' split)<;>first | rfl | omega)]
 (refine zar [(0,20),(1,21),(2,22),(3,23),(4,24),(5,25)]  ?_;(conv=>whnf);refine dO (zcy s hs') ?_)
 (refine zar [(0,26)]  ?_;(conv=>whnf);refine dO (Cl.zcq m.data zz0) ?_)
 refine zaa (c:=((s.queue.map zag.row).length+1)*96<=140737488355328) zz3 (zw ?_);refine zaa (c:=((s.fates.map fun n=>[pi n]).length+1)*8<=140737488355328) zz3 (zw ?_);refine zal [(0,some 80),(1,some 21),(2,some 22),(3,some 23),(4,some 24),(5,some 85)] rfl rfl trivial rfl (by rw [show (s.fates.length:Int)=((s.fates.map fun n=>[pi n]).length:Nat) by rw [zy3]];rfl) ⟨⟨rfl,.inl ⟨80,rfl,?_⟩⟩,⟨rfl,.inl ⟨21,rfl,rfl⟩⟩,⟨rfl,.inl ⟨22,rfl,rfl⟩⟩,⟨rfl,.inl ⟨23,rfl,rfl⟩⟩,⟨rfl,.inl ⟨24,rfl,rfl⟩⟩,⟨rfl,.inl ⟨85,rfl,?_⟩⟩,trivial⟩
 . exact zca (f:=zag.row) rfl (by rw [zy3];rfl)
 . exact zca (f:=fun n:Int=>[pi n]) rfl rfl
theorem ytw (s:zab) (m:Message) (hs:Fit s) (hd:m.data.length<2 ^ 38) :
 zao Tryz.prog 31 [s.hv,m.hv] zae (.tup [(zrq s m).1.hv,i64 (zrq s m).2.1,i64 (zrq s m).2.2]) zae:=by
 refine zcg Tryz.func31 (yol s m hs hd) ?_;generalize zrq s m=d;(conv=>whnf)
 rfl
end Snd
namespace Snd
open Ser
theorem ynd {l:List zbp} (i:Int) (h:Sco.zfv l):Sco.zfv (l.map (Sco.late i)):=⟨by simpa using h.len,by
 have:Sco.total (l.map (Sco.late i))=Sco.total l:=by
  simp only [Sco.total,zy95];congr 1;apply zy79;intro x _;simp only [Function.comp,Sco.late];split<;>rfl
 rw [this];exact h.bytes⟩
def ygv (part:Int) (s:zab) (i:Nat) (p:Path):zab:={s with out:=s.out.map (Sco.late i),paths:=s.paths.set i (Paths.late p part)}
theorem zwo {part:Int} {s:zab} {i:Nat} {p:Path} (hp:s.paths[i]?=some p) (h:p.zcw=0\/s.clock<p.zcw):zib part s i=s:=by
 simp only [zib,hp];rw [zy1 h]
theorem ywf {part:Int} {s:zab} {i:Nat} {p:Path} (hp:s.paths[i]?=some p) (h:¬ (p.zcw=0\/s.clock<p.zcw)):zib part s i=if (Sco.zez (ygv part s i p).out s.cum).1>s.cum then {ygv part s i p with forward:=true} else ygv part s i p:=by
 simp only [zib,hp];rw [zy0 h];rfl
abbrev tkF (s t:zab):List (Nat×zad):=(1,.live (.cells 32 (yza s (Sch.qs s.queue) (ints s.sched.had) (Sco.zrr s.out) (xfl s.paths) (ints s.mids) (ints s.fates))))::(2,.live (.cells 32 yow))::(3,.live (.cells 32 (yza t (.own 900) (.own 901) (.own 902) (.own 903) (.own 904) (.own 905))))::zxa t 900 901 902 903 904 905 []
theorem yoo (s:zab) (hs:Fit s):zao Tryz.prog 36 [s.hv] zae (xbz (tick s) 0 1 2 3 4 5) (lk .free (zxa (tick s) 0 1 2 3 4 5 [])):=by
 have hs':=hs;obtain ⟨h1,h2,h3,h4,h5,h6,h7⟩:=hs;have hT:(List.range s.paths.length).foldl (zib s.config.part) {s with clock:=W (s.clock+1)}=tick s:=rfl;generalize tick s=T at hT ⊢;refine zam mixed Tryz.func36 zz5 [] (fun _=>.inl rfl) ?_;(conv=>whnf)
 (refine zar [(0,20),(1,21),(2,22),(3,23),(4,24),(5,25)]  ?_;(conv=>whnf);refine dO (zcy s hs') ?_)
 refine sR ?_;refine ⟨{x:Nat×zab // x.1<=s.paths.length/\(List.range x.1).foldl (zib s.config.part) {s with clock:=W (s.clock+1)}=x.2/\Sco.zfv x.2.out/\x.2.paths.length=s.paths.length},
  fun | ⟨(i,t),_⟩=>hs 61 [(1,.ptr 1 0),(2,.ptr 2 0),(3,.ptr 3 0),(15,.own 903),(16,i64 s.paths.length),(17,i64 i)] (tkF s t),fun x=>s.paths.length-x.1.1,⟨(0,{s with clock:=W (s.clock+1)}),by dsimp only;omega,rfl,h3,rfl⟩,?_,?_⟩
 . exact (zdi [(1,some 1),(2,some 2),(3,some 3),(900,some 20),(901,some 21),(902,some 22),(903,some 23),(904,some 24),(905,some 25)])
 rintro ⟨⟨i,t⟩,k1,k2,k3,k4⟩;dsimp only at k1 k2 k3 k4;(conv=>whnf);by_cases hi:i<s.paths.length
 case neg =>
  have hin:i=s.paths.length:=by omega
  subst hin;refine sN ?_;rw [hT] at k2;subst k2;exact zal [(0,some 900),(1,some 901),(2,some 902),(3,some 903),(4,some 904),(5,some 905)] rfl rfl trivial rfl rfl ⟨⟨rfl,.inl ⟨900,rfl,rfl⟩⟩,⟨rfl,.inl ⟨901,rfl,rfl⟩⟩,⟨rfl,.inl ⟨902,rfl,rfl⟩⟩,⟨rfl,.inl ⟨903,rfl,rfl⟩⟩,⟨rfl,.inl ⟨904,rfl,rfl⟩⟩,⟨rfl,.inl ⟨905,rfl,rfl⟩⟩,trivial⟩
 case pos =>
  obtain ⟨p,hp⟩:∃ p,t.paths[i]?=some p:=⟨_,zy2 zz0⟩
  have hst:=zmc (zib s.config.part) {s with clock:=W (s.clock+1)} i;rw [k2] at hst;refine sT ?_;refine sOm ?_;refine zaj hp rfl (zw ?_);by_cases c1:p.zcw=0
  case pos =>
   rw [show (p.zcw==0)=true from zy37.2 c1];(conv=>whnf);refine sF ?_;exact ⟨⟨(i+1,t),by dsimp only;omega,by rw [hst,zwo hp (.inl c1)],k3,k4⟩,(zcl ((1,some 1)::(2,some 2)::(3,some 3)::(pJ6 [])) zz2),by dsimp only;omega⟩
  case neg =>
   rw [show (p.zcw==0)=false from zy15.2 c1];refine zaf rfl (zw ?_)
   repeat refine sG ?_
   by_cases c2:t.clock<p.zcw
   case pos =>
    rw [show decide (t.clock<p.zcw)=true from zy19 c2];(conv=>whnf);refine sF ?_;exact ⟨⟨(i+1,t),by dsimp only;omega,by rw [hst,zwo hp (.inr c2)],k3,k4⟩,(zcl ((1,some 1)::(2,some 2)::(3,some 3)::(pJ6 [])) zz2),by dsimp only;omega⟩
   case neg =>
    rw [show decide (t.clock<p.zcw)=false from zy30 c2];(conv=>whnf);have hgo:=ywf (part:=s.config.part) hp (fun h=>h.elim c1 c2)
    (refine zar [(0,35)]  ?_;(conv=>whnf);refine dO (Sco.zuo t.out i k3) ?_)
    (refine cL ?_;refine dL (Paths.zuo p s.config.part) ?_)
    refine zaa ⟨by omega,by rw [zy3];omega⟩ (zw ?_);refine zaj hp rfl (zw ?_);refine sD ?_
    (refine zac [] [(1000,35)] [(0,51)] ?_;(conv=>whnf);refine dG (Sco.zem (t.out.map (Sco.late i)) t.cum (by rw [zy3];exact k3.len)) ?_)
    have hsz:=ynd i k3;by_cases c3:(Sco.zez (t.out.map (Sco.late i)) t.cum).1>t.cum
    case pos =>
     rw [zy1 (show (Sco.zez (ygv s.config.part t i p).out t.cum).1>t.cum from c3)] at hgo;refine zai ?_ ?_
     . simpa using c3
     (conv=>whnf);refine sF ?_;exact ⟨⟨(i+1,{ygv s.config.part t i p with forward:=true}),by dsimp only;omega,by rw [hst,hgo],hsz,by show (t.paths.set i _).length=_;rw [zy26];exact k4⟩,(zcl [(1,some 1),(2,some 2),(3,some 3),(900,some 900),(901,some 901),(902,some 35),(903,some 903),(904,some 904),(905,some 905)] zz32),by dsimp only;omega⟩
    case neg =>
     rw [zy0 (show ¬ (Sco.zez (ygv s.config.part t i p).out t.cum).1>t.cum from c3)] at hgo;refine zaf ?_ ?_
     . simpa using c3
     (conv=>whnf);refine sF ?_;exact ⟨⟨(i+1,ygv s.config.part t i p),by dsimp only;omega,by rw [hst,hgo],hsz,by show (t.paths.set i _).length=_;rw [zy26];exact k4⟩,(zcl [(1,some 1),(2,some 2),(3,some 3),(900,some 900),(901,some 901),(902,some 35),(903,some 903),(904,some 904),(905,some 905)] zz32),by dsimp only;omega⟩
theorem yub (s:zab) (hs:Fit s):zao Tryz.prog 36 [s.hv] zae (tick s).hv zae:=by
 refine zcg Tryz.func36 (yoo s hs) ?_;generalize tick s=d;(conv=>whnf)
 rfl
end Snd
namespace Snd
open Ser
def yus (c:Config):zab×Int:=if zpe c=0 then (zrb c,0) else (noS,zpe c)
theorem ytq (n:Int) (hb:n<2 ^ 40):zao Tryz.prog 66 [i64 n] zae (.agg [i64 (Sch.new n).last,i64 (Sch.new n).hand,.own 0]) (lk .free [(0,ynt (Sch.new n).had)]):=by
 refine zam mixed Tryz.func66 zz5 [] (fun _=>.inl rfl) ?_;(conv=>whnf);refine zcs (zw ?_);refine zaa (c:=0<=(if 0>n then 0 else n)/\(if 0>n then 0 else n)=(if 0>n then 0 else n)/\(if 0>n then 0 else n)*8<=140737488355328) zz0 ?_;(conv=>whnf);refine zal [(0,some 7)] rfl rfl trivial rfl rfl ⟨⟨rfl,.inl ⟨7,rfl,?_⟩⟩,trivial⟩;have e:(if 0>n then 0 else n)=max n 0:=by omega
 refine zaq ?_;rw [show (Sch.new n).had=List.replicate (max n 0).toNat 0 from rfl,zy141,<- e];rfl
theorem ytr (c:Config):zao Tryz.prog 26 [c.hv] zae (.tup [xbz (yus c).1 0 1 2 3 4 5,i64 (yus c).2]) (lk .free (zxa (yus c).1 0 1 2 3 4 5 [])):=by
 refine zam mixed Tryz.func26 zz5 [] (fun _=>.inl rfl) ?_;(conv=>whnf)
 (refine cP ?_;refine dL (yue c) ?_)
 by_cases c0:zpe c=0
 case neg =>
  rw [yus,zy0 c0];refine zai ?_ ?_
  . simpa using c0
  (conv=>whnf);refine zal [(0,none),(1,none),(2,none),(3,none),(4,none),(5,none)] rfl rfl trivial rfl rfl ⟨⟨rfl,.inr ⟨rfl,rfl⟩⟩,⟨rfl,.inr ⟨rfl,rfl⟩⟩,⟨rfl,.inr ⟨rfl,rfl⟩⟩,⟨rfl,.inr ⟨rfl,rfl⟩⟩,⟨rfl,.inr ⟨rfl,rfl⟩⟩,⟨rfl,.inr ⟨rfl,rfl⟩⟩,trivial⟩
 case pos =>
  rw [yus,zy1 c0];refine zaf ?_ ?_
  . simpa using c0
  conv=>whnf
  repeat refine sG ?_
  have hb:1<=c.streams/\c.streams<=4/\1<=c.paths/\c.paths<=2/\0<=c.first/\c.first<65536:=by
   unfold zpe at c0;split at c0
   . cases c0
   . omega
  obtain ⟨b1,b2,b3,b4,b5,b6⟩:=hb
  (refine zar [(0,15)]  ?_;(conv=>whnf);refine dO (ytq c.streams zz0) ?_)
  refine zap (z:=c.first-1) (zbn zz0 zz0) (zw ?_);refine zap (z:=2*c.streams) (zbn zz0 zz0) (zw ?_);refine zaa (c:=0<=2*c.streams/\2*c.streams=2*c.streams/\2*c.streams*(8:Nat)<=140737488355328) ⟨by omega,rfl,by omega⟩ (zw ?_);refine zap (z:=c.first-1) (zbn zz0 zz0) (zw ?_);refine sD ?_;have hnn:(2*c.streams).toNat=(2*c.streams).toNat:=rfl;refine ⟨{i:Nat // (i:Int)<=c.paths},fun | ⟨i,_⟩=>hs 43 [(1,.ptr 1 0),(2,.ptr 2 0),(3,i64 0),(5,.ptr 5 0),(30,i64 c.paths),(31,i64 i)] [(1,.live (.cells 24 [i64 c.streams,i64 c.part,i64 c.packet,i64 c.paths,i64 (c).turns,i64 c.waiting,i64 c.first])),(2,.live (.cells 32 yow)),(5,.live (.cells 32 (yza (zrb c) zgc (.own 901) zgc (.own 900) (.own 902) zgc))),(900,xgv (List.replicate i (Paths.new c.part))),(901,ynt (Sch.new c.streams).had),(902,ynt (List.replicate (2*c.streams).toNat 0))],fun i=>c.paths.toNat-i.1,⟨0,by omega⟩,?_,?_⟩
  . exact (zcl [(1,some 1),(2,some 2),(5,some 5),(900,none),(901,some 15),(902,some 24)] (by repeat' (first | exact z0 | refine z1 ?_ | refine ⟨?_,?_⟩ | ((exact zaq (by rw [zy141];rfl))) | exact z2)))
  rintro ⟨i,k1⟩;(conv=>whnf);by_cases hi:(i:Int)<c.paths
  case pos =>
   refine sT ?_
   (refine cL ?_;refine dL (Paths.zov c.part) ?_)
   refine zaa (c:=(((List.replicate i (Paths.new c.part)).map Path.row).length+1)*56<=140737488355328) zz3 (zw ?_);refine sD ?_;refine sF ?_;exact ⟨⟨i+1,by omega⟩,(zcl [(1,some 1),(2,some 2),(5,some 5),(900,some 39),(901,some 901),(902,some 902)] (by repeat' (first | exact z0 | refine z1 ?_ | refine ⟨?_,?_⟩ | ((exact zca (f:=Path.row) List.replicate_succ' rfl)) | exact z2))),by dsimp only;omega⟩
  case neg =>
   refine sN ?_;have hin:c.paths.toNat=i:=by omega
   refine zal [(0,none),(1,some 901),(2,none),(3,some 900),(4,some 902),(5,none)] rfl rfl trivial rfl rfl ⟨⟨rfl,.inr ⟨rfl,rfl⟩⟩,⟨rfl,.inl ⟨901,rfl,rfl⟩⟩,⟨rfl,.inr ⟨rfl,rfl⟩⟩,⟨rfl,.inl ⟨900,rfl,?_⟩⟩,⟨rfl,.inl ⟨902,rfl,rfl⟩⟩,⟨rfl,.inr ⟨rfl,rfl⟩⟩,trivial⟩;exact zaq (by rw [zrb,hin])
theorem zov (c:Config):zao Tryz.prog 26 [c.hv] zae (.tup [(yus c).1.hv,i64 (yus c).2]) zae:=by
 refine zcg Tryz.func26 (ytr c) ?_;generalize yus c=d;(conv=>whnf)
 rfl
end Snd
namespace Snd
open Ser
theorem zvh {g:FuncId} {c1:List PV} {p:zag->Bool} (hg:∀ m:zag,zao Tryz.prog g [m.hv,.rp c1] zae (zbo (p m)) zae) (q:List zag) (hb:q.length<2 ^ 62) :
 zao Tryz.prog 158 [.p (.sl 10 (q.map zag.row)),.clo g [.rp c1]] zae (i64 (zbt p 0 q)) zae:=by
 refine zas mixed Tryz.func158 zz5 ?_;(conv=>whnf);refine ⟨{k:Nat // k<=q.length/\zbt p k (q.drop k)=zbt p 0 q},fun | ⟨k,_⟩=>hs 19 [(0,.p (.sl 10 (q.map zag.row))),(1,.clo g [.rp c1]),(7,i64 (q.map zag.row).length),(8,i64 k)] [],fun k=>q.length-k.1,⟨0,by simp⟩,?_,?_⟩
 . exact (zdi [])
 . rintro ⟨k,hk,hi⟩
   exact yy5
theorem yml {g:FuncId} {c1:List PV} {p:zag->Bool} (hg:∀ m:zag,zao Tryz.prog g [m.hv,.rp c1] zae (zbo (p m)) zae) (q:List zag) (hb:q.length<2 ^ 62) :
 zao Tryz.prog 124 [.p (.sl 10 (q.map zag.row)),.clo g [.rp c1]] zae (zbo (q.any p)) zae:=by
 refine zas mixed Tryz.func124 zz5 ?_;(conv=>whnf)
 (refine cL ?_;refine dL (zvh hg q hb) ?_)
 rw [zyw q 0]
theorem yaz {g:FuncId} {c1:List PV} {p:zbp->Bool} (hg:∀ m:zbp,zao Tryz.prog g [m.hv,.rp c1] zae (zbo (p m)) zae) (q:List zbp) (hb:q.length<2 ^ 62) :
 zao Tryz.prog 159 [.p (.sl 20 (q.map zbp.row)),.clo g [.rp c1]] zae (i64 (zbt p 0 q)) zae:=by
 refine zas mixed Tryz.func159 zz5 ?_;(conv=>whnf);refine ⟨{k:Nat // k<=q.length/\zbt p k (q.drop k)=zbt p 0 q},fun | ⟨k,_⟩=>hs 19 [(0,.p (.sl 20 (q.map zbp.row))),(1,.clo g [.rp c1]),(7,i64 (q.map zbp.row).length),(8,i64 k)] [],fun k=>q.length-k.1,⟨0,by simp⟩,?_,?_⟩
 . exact (zdi [])
 . rintro ⟨k,hk,hi⟩
   exact yy5
theorem yvb {g:FuncId} {c1:List PV} {p:zbp->Bool} (hg:∀ m:zbp,zao Tryz.prog g [m.hv,.rp c1] zae (zbo (p m)) zae) (q:List zbp) (hb:q.length<2 ^ 62) :
 zao Tryz.prog 126 [.p (.sl 20 (q.map zbp.row)),.clo g [.rp c1]] zae (zbo (q.any p)) zae:=by
 refine zas mixed Tryz.func126 zz5 ?_;(conv=>whnf)
 (refine cL ?_;refine dL (yaz hg q hb) ?_)
 rw [zyw q 0]
theorem ytx (id:Int) (m:zag):zao Tryz.prog 125 [m.hv,.rp [pi id]] zae (zbo (decide (m.id=id))) zae:=by
 refine zas mixed Tryz.func125 zz5 ?_;(conv=>whnf)
 try rfl
theorem yty (id:Int) (x:zbp):zao Tryz.prog 127 [x.hv,.rp [pi id]] zae (zbo (decide (x.id=id)&&decide (x.state≠2))) zae:=by
 refine zas mixed Tryz.func127 zz5 ?_;(conv=>whnf)
 (repeat' (first | (refine zcs ?_;conv=>whnf) | (refine zaa ?_ ?_;(first | kernel_rfl | decide);conv=>whnf) | (refine zbg ?_ ?_;kernel_rfl;conv=>whnf) | (refine znp.go ?_;conv=>whnf) | (refine zah (fun h=>?_) (fun h=>?_)<;>conv=>whnf)))
 all_goals try simp only [zy51,zy64,zy37,zy15,zy34,zy45] at *
 . show zbo _=zbo _
   refine congrArg zbo ?_;rw [zy136];simp [*]
 . show zbo _=zbo _
   refine congrArg zbo ?_;rw [zy136];simp [*]
theorem zyy {α β:Type} (f:Nat->α->β) (A:List α) (p:α) (B:List β):(A++[p]).mapIdx f++B=A.mapIdx f++f A.length p::B:=by
 rw [List.mapIdx_concat];simp
theorem zen (s:zab)  (hs:Fit s):zao Tryz.prog 82 [.ptr 1000 0] (lk .free (pH0 s )) (.tup []) (lk .free (pD0 (settle s) )):=by
 obtain ⟨h1,h2,h3,h4,h5,h6,h7⟩:=hs;refine zam mixed Tryz.func82 zz5 [1000,1001,1002,1003,1004,1005,1006] zbh ?_;(conv=>whnf);refine ⟨{x:List Int×List Int // s.fates=x.1++x.2},fun | ⟨(A,B),_⟩=>hsP [1000,1001,1002,1003,1004,1005,1006] 41 [(0,.ptr 1000 0),(7,.own 1006),(8,i64 s.fates.length),(9,i64 A.length)] (pH0 {s with fates:=A.mapIdx (settled s)++B} ),fun x=>x.1.2.length,⟨([],s.fates),rfl⟩,?_,?_⟩
 . exact (zbu (pK7 []) zz2)
 rintro ⟨⟨A,B⟩,h⟩;dsimp only at h;(conv=>whnf);cases B with
 | cons f B =>
  have hz:=zbz h;refine sT ?_;refine sOm ?_;refine zak (f:=fun n:Int=>[pi n]) (a:=A.mapIdx (settled s)) (b:=B) (s:=f) rfl zz4 (zw ?_);by_cases c1:f=1
  case neg =>
   rw [show (f==1)=false from zy15.2 c1];(conv=>whnf);refine sF ?_;exact ⟨⟨(A++[f],B),zan h⟩,(zbu (pK7 []) (by repeat' (first | exact z0 | refine z1 ?_ | refine ⟨?_,?_⟩ | ((exact zaq (by rw [zyy,settled,zy0 (fun h=>c1 h.1)]))) | exact z2))),by simp⟩
  case pos =>
   rw [show (f==1)=true from zy37.2 c1];refine zai rfl (zw ?_)
   (refine cL ?_;refine dL (yml (fun m=>ytx (A.length:Int) m) s.queue zz0) ?_)
   cases c2:(s.queue.any fun m=>decide (m.id=(A.length:Int))) with
   | true =>
    conv=>whnf
    try (refine zaf rfl ?_;conv=>whnf)
    (conv=>whnf);refine sF ?_;exact ⟨⟨(A++[f],B),zan h⟩,(zbu (pK7 []) (by repeat' (first | exact z0 | refine z1 ?_ | refine ⟨?_,?_⟩ | ((exact zaq (by rw [zyy,settled,zy0 (fun h=>absurd (c2.symm.trans h.2.1) (by decide))]))) | exact z2))),by simp⟩
   | false =>
    conv=>whnf
    try (refine zai rfl ?_;conv=>whnf)
    repeat refine sG ?_
    (refine cL ?_;refine dL (yvb (fun x=>yty (A.length:Int) x) s.out (by have:=h3.len;omega)) ?_)
    cases c3:(s.out.any fun x=>decide (x.id=(A.length:Int))&&decide (x.state≠2)) with
    | true =>
     (conv=>whnf);refine sF ?_;exact ⟨⟨(A++[f],B),zan h⟩,(zbu (pK7 []) (by repeat' (first | exact z0 | refine z1 ?_ | refine ⟨?_,?_⟩ | ((exact zaq (by rw [zyy,settled,zy0 (fun h=>absurd (c3.symm.trans h.2.2) (by decide))]))) | exact z2))),by simp⟩
    | false =>
     (conv=>whnf);refine sOm ?_;refine zak (f:=fun n:Int=>[pi n]) (a:=A.mapIdx (settled s)) (b:=B) (s:=f) rfl zz4 (zw ?_);refine sD ?_;refine sF ?_;exact ⟨⟨(A++[f],B),zan h⟩,(zbu (pK7 []) (by repeat' (first | exact z0 | refine z1 ?_ | refine ⟨?_,?_⟩ | ((rw [zyy,settled,zy1 ⟨c1,c2,c3⟩];refine Eq.symm (zek (f:=fun n:Int=>[pi n]) (a:=A.mapIdx (settled s)) (b:=B) ?_ ?_);all_goals first | rfl | (simp;done))) | exact z2))),by simp⟩
 | nil =>
  have hz:=zco h;rw [zy7] at h;refine sN ?_
  (exact zcz (pK7 [(0,some 1001),(1,some 1002),(2,some 1003),(3,some 1004),(4,some 1005),(5,some 1006)]) (by repeat' (first | exact z0 | refine z1 ?_ | refine ⟨?_,?_⟩ | ((exact zaq (by rw [settle,h,zy7]))) | exact z2)))
end Snd
namespace Sco
open Ser
theorem yoj (l:List zbp) (cum:Int) (c:Chunk) (paths:Int) (hl:zfv l) (hr:yme l cum paths) (hsp:c.zax.length<2 ^ 60) :
 zao Tryz.prog 75 [zrr l,i64 cum,c.hv,i64 paths] zae (.tup [.own 0,i64 (zha l cum c paths).2.1,.own 1,.own 2]) (lk .free [(0,zjn (zha l cum c paths).1),(1,ypa (zha l cum c paths).2.2.1),(2,ypa (zha l cum c paths).2.2.2)]):=by
 have hl1:=hl.len;have hp0:=hr.p0;have hp1:=hr.p1;have hc0:=hr.c0;have hc1:=hr.c1;refine zam mixed Tryz.func75 zz5 [] (fun _=>.inl rfl) ?_;have hn:=zlh (a:=cum) (t:=c.tag) zz0 zz0;rw [zha];generalize hN:zdd cum c.tag=n at hn ⊢;(conv=>whnf);refine zaa (c:=0<=(if 0>paths then 0 else paths)/\(if 0>paths then 0 else paths)=(if 0>paths then 0 else paths)/\(if 0>paths then 0 else paths)*8<=140737488355328) zz0 ?_;(conv=>whnf)
 (refine cL ?_;refine dLm (zjq _ _) ?_)
 rw [hN];(conv=>whnf);refine znp.meet PUnit (fun _=>hs 165 [(0,zrr l),(1,i64 cum),(6,.ptr 6 0),(8,zgc),(10,.own 900),(11,zgc),(12,i64 n),(13,i64 (cum+l.length))] [(6,.live (.cells 61 c.cells)),(900,ypa (List.replicate paths.toNat 0))]) ?_ ?_
 . have e21:zad.live (.row 3 1 (List.replicate (if 0>paths then 0 else paths).toNat [pi 0]))=ypa (List.replicate paths.toNat 0):=by
    rw [zy0 (by omega),ypa,zy141]
   (conv=>whnf);refine zah (fun c1=>?_) (fun c1=>?_)
   . have c1:0<l.length:=by simpa using c1
     have e1:=hr.zfa (l.length-1) (l[l.length-1]) (zy2 zz0);(conv=>whnf);refine sF ?_;refine zdj (l.length-1) zz3 zz0 ?_;(conv=>whnf);exact ⟨⟨⟩,(zcl [(6,some 6),(900,some 21)] zz42)⟩
   . have c1:l.length=0:=by simpa using c1
     (conv=>whnf);exact ⟨⟨⟩,(zcl [(6,some 6),(900,some 21)] zz42)⟩
 rintro ⟨⟩;(conv=>whnf);by_cases k1:n<cum\/n>cum+l.length
 . rw [zy1 k1]
   by_cases k2:n<cum
   . refine sT ?_
     exact yy43
   . refine sN ?_
     refine sT ?_;exact yy43
 . rw [zy0 k1]
   refine sN ?_;refine sN ?_
   (refine zar [(0,50)]  ?_;(conv=>whnf);refine dO (zcy l hl) ?_)
   refine ⟨{x:List zbp×List zbp×List zbp×List Int×Int // SI l c n paths.toNat cum x},fun | ⟨(a,b,out,zgd,high),_⟩=>hs 165 [(6,.ptr 6 0),(8,.own 901),(10,.own 900),(11,zgc),(12,i64 n),(14,i64 high),(50,.own 902),(51,i64 l.length),(52,i64 a.length)] [(6,.live (.cells 61 c.cells)),(900,ypa zgd),(901,zjn out),(902,zjn l)],fun x=>x.1.2.1.length,⟨([],l,[],List.replicate paths.toNat 0,0),rfl,rfl,rfl,rfl,zy91 _,by dsimp only;simp;omega⟩,?_,?_⟩
   . exact (zdi [(6,some 6),(900,some 900),(901,none),(902,some 50)])
   rintro ⟨⟨a,b,out,zgd,high⟩,hi⟩;have h:=hi.split;dsimp only at h;cases b with
   | nil =>
    have hz:=zco h;obtain ⟨h1,h2,h3,h4,h5,h6⟩:=hi;dsimp only at h1 h2 h3 h4 h5 h6;rw [zy7] at h1;subst h1;rw [<- h3,<- h4,<- h2];have hlen:out.length<=l.length:=by rw [h2,left,zy3];exact zy55 _ _
    (conv=>whnf);refine sN ?_;refine ⟨{x:List zbp×List zbp // out=x.1++x.2},fun | ⟨(a,b),_⟩=>hs 165 [(8,.own 901),(10,.own 900),(11,.own 903),(12,i64 n),(14,i64 high),(118,i64 out.length),(119,i64 a.length)] [(900,ypa zgd),(901,zjn (a.map (age high)++b)),(903,ypa (lost high a))],fun x=>x.1.2.length,⟨([],out),rfl⟩,?_,?_⟩
    . exact (zdi [(900,some 900),(901,some 901),(903,none)])
    rintro ⟨⟨a,b⟩,h⟩;dsimp only at h;cases b with
    | nil =>
     have hz:=zco h;rw [zy7] at h;subst h;(conv=>whnf);refine sN ?_;exact zal [(0,some 901),(1,some 900),(2,some 903)] rfl rfl trivial rfl rfl ⟨⟨rfl,.inl ⟨901,rfl,by exact zaq (by rw [zy7])⟩⟩,⟨rfl,.inl ⟨900,rfl,rfl⟩⟩,⟨rfl,.inl ⟨903,rfl,rfl⟩⟩,trivial⟩
    | cons s b =>
     have hz:=zbz h;have ea:(a++[s]).map (age high)++b=a.map (age high)++age high s::b:=by simp
     have el:lost high (a++[s])=lost high a++lost high [s]:=by simp [lost]
     have hln:(lost high a).length<=a.length:=by rw [lost,zy3];exact zy55 _ _
     (conv=>whnf);refine sT ?_
     (try refine sG ?_)
     refine sO ?_;refine zak (a:=a.map (age high)) (b:=b) (s:=s) rfl zz4 (zw ?_);by_cases c1:s.state=1
     . refine sN ?_
       refine zak (a:=a.map (age high)) (b:=b) (s:=s) rfl zz4 (zw ?_);by_cases c2:s.number<high
       . refine sN ?_
         refine zak (a:=a.map (age high)) (b:=b) (s:=s) rfl zz4 (zw ?_);refine sR ?_;refine zak (a:=a.map (age high)) (b:=b) (s:=s) rfl zz4 (zw ?_);refine zbr zz4 zz4 (zw ?_);by_cases c3:W (s.missed+1)>=3
         . have e1:age high s={s with missed:=W (s.missed+1),state:=3}:=by rw [age,zy1 ⟨c1,c2⟩,zy1 c3]
           have e2:lost high [s]=[s.number]:=by simp [lost,c1,c2,c3]
           refine sT ?_;refine zbr zz4 zz4 (zw ?_);refine zbr zz4 zz4 (zw ?_);refine zaa (c:=(((lost high a).map fun n=>[pi n]).length+1)*8<=140737488355328) zz14 (zw ?_);refine sF ?_;exact ⟨⟨(a++[s],b),zan h⟩,(zcl [(900,some 900),(901,some 901),(903,some 159)] (by repeat' (first | exact z0 | refine z1 ?_ | refine ⟨?_,?_⟩ | ((rw [ea];exact (yxi (by simp) (by rw [e1];rfl)).symm)) | ((rw [el,e2];exact (zke (f:=fun n=>[pi n]) rfl).symm)) | exact z2))),by simp⟩
         . have e1:age high s={s with missed:=W (s.missed+1)}:=by rw [age,zy1 ⟨c1,c2⟩,zy0 c3]
           have e2:lost high [s]=[]:=by simp [lost,c1,c2,c3]
           refine sN ?_;refine sF ?_;exact ⟨⟨(a++[s],b),zan h⟩,(zcl [(900,some 900),(901,some 901),(903,some 903)] (by repeat' (first | exact z0 | refine z1 ?_ | refine ⟨?_,?_⟩ | ((rw [ea];exact (zek (by simp) (by rw [e1];rfl)).symm)) | ((rw [el,e2,zy7];rfl)) | exact z2))),by simp⟩
       . have e1:age high s=s:=by rw [age,zy0 fun h=>c2 h.2]
         have e2:lost high [s]=[]:=by simp [lost,c2]
         exact yy85
     . have e1:age high s=s:=by rw [age,zy0 fun h=>c1 h.1]
       have e2:lost high [s]=[]:=by simp [lost,c1]
       exact yy85
   | cons s b =>
    have hz:=zbz h;obtain ⟨hnum,hpa0,hpa1⟩:=hr.at h;have hnx:=hi.next hnum hc0;have hhi:=hi.h1;have hh0:=hi.h0;have hcl:=hi.zgd;have hol:out.length<=a.length:=by have:=hi.out;dsimp only at this;rw [this,left,zy3];exact zy55 _ _
    dsimp only at hhi hh0 hcl;have hcl:zgd.length=paths.toNat:=by rw [hcl,zvt]
    have hby:=hl.bytes;rw [h,zjt,zhm] at hby;(conv=>whnf);refine sT ?_;refine sO ?_;refine zak h rfl (zw ?_);by_cases g:s.number>n
    . refine sT ?_
      refine sR ?_
      (refine cL ?_;refine dL (ylq c.zax _ zz0) ?_)
      by_cases hh:has c.zax (W (s.number-n))=true
      . have hk:here c n s=true:=by rw [here,hh];simp
        refine sN ?_;have eA:zad.live (.row 3 1 ((zgd.map fun n=>[pi n]).set s.path.toNat [pi (W (zgd[s.path.toNat]'zz0+((s.chunk.data.map zdg).length:Int)))]))=ypa (yfi zgd s.path s.chunk.data.length):=by
         rw [yfi,ypa,zy102,zy2 (by omega),zy131,zy3]
        by_cases q:s.state=1\/s.state=3
        . have hcm:comes c n s=true:=by rw [comes,hk,zy133];rcases q with q | q<;>rw [q]<;>rfl
          rw [zy1 g,zvg,zy1 hcm,zvl,zy1 hcm,zbi,zy1 hcm] at hnx;have emx:(if s.number>high then s.number else high)=s.number:=by split<;>omega
          by_cases q1:s.state=1
          . refine sT ?_
            (repeat' (first | refine sT ?_ | refine sN ?_))
            refine sO ?_;refine zdj s.path.toNat zz0 zz0 (zw ?_);refine sR ?_;refine sO ?_;refine zdj s.path.toNat zz0 zz0 (zw ?_);refine sD ?_;exact yy23
          . refine sN ?_
            refine sT ?_
            (repeat' (first | refine sT ?_ | refine sN ?_))
            refine sO ?_;refine zdj s.path.toNat zz0 zz0 (zw ?_);refine sR ?_;refine sO ?_;refine zdj s.path.toNat zz0 zz0 (zw ?_);refine sD ?_;exact yy23
        . have hcm:comes c n s=false:=by
           rw [comes,hk,zy133];simp only [not_or] at q;simp [q.1,q.2]
          rw [zy1 g,zvg,zy0 (by rw [hcm];decide),zvl,zy0 zz75,zbi,zy0 zz75] at hnx;have q1:s.state≠1:=fun h=>q (.inl h)
          have q2:s.state≠3:=fun h=>q (.inr h)
          refine sN ?_;refine sN ?_;exact yy23
      . have hk:here c n s=false:=by rw [here];simp [hh];omega
        have hcm:comes c n s=false:=by rw [comes,hk];rfl
        rw [zy1 g,zvg,zy0 (by rw [hcm];decide),zvl,zy0 zz75,zbi,zy0 zz75] at hnx;refine zai (by simpa using hh) (zw ?_);refine zaa (c:=((out.map zbp.row).length+1)*200<=140737488355328) om (zw ?_);refine sF ?_;exact ⟨⟨_,hnx⟩,(zcl [(6,some 6),(900,some 900),(901,some 73),(902,some 902)] (by repeat' (first | exact z0 | refine z1 ?_ | refine ⟨?_,?_⟩ | (exact (zke (f:=zbp.row) rfl).symm) | exact z2))),by simp⟩
    . have hk:here c n s=true:=by rw [here];simp;left;omega
      refine sN ?_;have eA:zad.live (.row 3 1 ((zgd.map fun n=>[pi n]).set s.path.toNat [pi (W (zgd[s.path.toNat]'zz0+((s.chunk.data.map zdg).length:Int)))]))=ypa (yfi zgd s.path s.chunk.data.length):=by
       rw [yfi,ypa,zy102,zy2 (by omega),zy131,zy3]
      by_cases q:s.state=1\/s.state=3
      . have hcm:comes c n s=true:=by rw [comes,hk,zy133];rcases q with q | q<;>rw [q]<;>rfl
        rw [zy0 g,zvg,zy1 hcm,zvl,zy1 hcm,zy7] at hnx;have emx:(if s.number>high then s.number else high)=s.number:=by split<;>omega
        by_cases q1:s.state=1
        . refine sT ?_
          exact yy37
        . refine sN ?_
          refine sT ?_;exact yy37
      . have hcm:comes c n s=false:=by
         rw [comes,hk,zy133];simp only [not_or] at q;simp [q.1,q.2]
        rw [zy0 g,zvg,zy0 (by rw [hcm];decide),zvl,zy0 zz75,zy7] at hnx;have q1:s.state≠1:=fun h=>q (.inl h)
        have q2:s.state≠3:=fun h=>q (.inr h)
        refine sN ?_;refine sN ?_;refine sN ?_;refine sF ?_;exact ⟨⟨_,hnx⟩,(zcl ((6,some 6)::(pJ3 [])) zz27),by simp⟩
end Sco
namespace Snd
open Ser
def ziz (ps:List Path) (part:Int) (moved:Bool) (A:List Int):List Path:=ps.mapIdx fun i p=>if A[i]?.getD 0>0 then Paths.ype p (A[i]?.getD 0) part moved else p
theorem zxx {ps:List Path} {part:Int} {moved:Bool} {A:List Int}:(ziz ps part moved A)[A.length]?=ps[A.length]?:=by
 rw [ziz,zy76,zy42 (zy25 _)];cases ps[A.length]?<;>simp
theorem zvu {ps:List Path} {part:Int} {moved:Bool} {A:List Int} {n:Int} {p:Path} (hp:ps[A.length]?=some p) :
 ziz ps part moved (A++[n])=(ziz ps part moved A).set A.length (if n>0 then Paths.ype p n part moved else p):=by
 apply zy85;intro i;rw [zy127,ziz,ziz,zy76,zy76,zy123];have hl:=(zy10.1 hp).1;by_cases hi:A.length=i
 . subst hi
   rw [zy1 rfl,zy1 hl,hp];simp
 . rw [zy0 hi]
   rcases zy62 i A.length with h | h
   . rw [zy22 h]
   . rw [zy42 (l:=A++[n]) (by simp;omega),zy42 (l:=A) h]
theorem yeb {l:List zbp} (h:Sco.zfv l) (cum:Int) (c:Chunk) (paths:Int):Sco.zfv (Sco.zha l cum c paths).1:=by
 have hf:∀ (p:zbp->Bool) (l:List zbp),Sco.total (l.filter p)<=Sco.total l:=by
  intro p l
  induction l with
  | nil=>exact zy25 _
  | cons x l ih =>
   rw [zy47,Sco.zhm];split
   . rw [Sco.zhm];omega
   . omega
 have hm:∀ (f:zbp->zbp) (l:List zbp),(∀ x,(f x).chunk=x.chunk)->Sco.total (l.map f)=Sco.total l:=by
  intro f l hf;simp only [Sco.total,zy95];congr 1;exact zy79 fun s _=>by simp [hf]
 unfold Sco.zha;split
 . exact h
 . refine ⟨?_,?_⟩
   . have:=zy55 (fun s:zbp=>decide (s.number>zdd cum c.tag)) l
     have:=h.len;simp only [Sco.left,zy3];omega
   . dsimp only
     rw [hm _ _ (fun x=>by unfold Sco.age;(repeat' split)<;>rfl),Sco.left,hm _ _ (fun x=>by unfold Sco.zbi;split<;>rfl)];exact zy146 (hf _ _) h.bytes
def zhd (s:zab) (c:Chunk) (k:List zbp×Int×List Int×List Int):zab:=zei {s with out:=k.1,cum:=k.2.1,room:=c.room,paths:=ziz s.paths s.config.part (decide (k.2.1>s.cum)) k.2.2.1}
def zhs (part:Int) (t:zab) (lost:List Int):zab:=match lost.getLast? with
 | none=>t
 | some z=>if z>t.recover then {t with paths:=setAt t.paths (choose t) fun p=>Paths.ybu p part,recover:=W (t.next-1)} else t
def zfy (moved:Bool) (u:zab):zab:=if moved=true/\(Sco.zez u.out u.cum).1>u.cum then {u with forward:=true} else u
theorem zny (s:zab) (c:Chunk):heard s c=settle (zfy (decide ((Sco.zha s.out s.cum c s.paths.length).2.1>s.cum)) (zhs s.config.part (zhd s c (Sco.zha s.out s.cum c s.paths.length)) (Sco.zha s.out s.cum c s.paths.length).2.2.2)):=rfl
def upS (t:zab) (part:Int) (w:Path):zab:={t with paths:=t.paths.set (choose t) (Paths.ybu w part),recover:=W (t.next-1)}
theorem Fit.fwd {s:zab} (h:Fit s):Fit {s with forward:=true}:=⟨h.queue,h.had,h.out,h.paths,h.mids,h.fates,h.data⟩
theorem Fit.up {s:zab} (h:Fit s) {part:Int} {w:Path}:Fit (upS s part w):=⟨h.queue,h.had,h.out,by show (s.paths.set _ _).length<_;rw [zy26];exact h.paths,h.mids,h.fates,h.data⟩
theorem yoc (s:zab) (c:Chunk) (hs:Fit s) (hr:Sco.yme s.out s.cum s.paths.length) (hsp:c.zax.length<2 ^ 60) :
 zao Tryz.prog 34 [s.hv,c.hv] zae (xbz (yfh s c) 0 1 2 3 4 5) (lk .free (zxa (yfh s c) 0 1 2 3 4 5 [])):=by
 have hs':=hs;obtain ⟨h1,h2,h3,h4,h5,h6,h7⟩:=hs;generalize hT:yfh s c=T;refine zam mixed Tryz.func34 zz5 [] (fun _=>.inl rfl) ?_;(conv=>whnf)
 (refine zar [(0,20),(1,21),(2,22),(3,23),(4,24),(5,25)]  ?_;(conv=>whnf);refine dO (zcy s hs') ?_)
 by_cases c1:c.kind=2
 case neg =>
  rw [yfh,zy1 c1] at hT;subst hT;refine zai ?_ ?_
  . simpa using c1
  exact yy29
 case pos =>
  rw [yfh,zy0 (fun h=>h c1)] at hT;refine zaf ?_ ?_
  . simpa using c1
  conv=>whnf
  repeat refine sG ?_
  have hk:=Sco.yoj s.out s.cum c ((s.paths.map Path.row).length:Nat) h3 (by rw [zy3];exact hr) hsp;by_cases k1:zdd s.cum c.tag<s.cum\/zdd s.cum c.tag>s.cum+s.out.length
  case pos =>
   rw [zy1 k1] at hT;subst hT;rw [Sco.zha,zy1 k1] at hk
   (refine zar [(0,31),(1,32),(2,33)]  ?_;(conv=>whnf);refine dO hk ?_)
   (refine cL ?_;refine dL (zjq s.cum c.tag) ?_)
   refine zai ?_ ?_
   . have:zdd s.cum c.tag≠s.cum:=by omega
     simpa using this
   exact yy29
  case neg =>
   rw [zy0 k1,zny] at hT;have hks:=yeb h3 s.cum c s.paths.length;have hlo:(Sco.zha s.out s.cum c s.paths.length).2.2.2.length<=s.out.length:=by
    rw [Sco.zha,zy0 k1];dsimp only;rw [Sco.lost,zy3];refine zy84 (zy55 _ _) ?_;rw [Sco.left,zy3];exact zy55 _ _
   have hK:(Sco.zha s.out s.cum c ((s.paths.map Path.row).length:Nat)).2.1=zdd s.cum c.tag:=by rw [Sco.zha,zy0 k1]
   rw [hK] at hk
   (refine zar [(0,31),(1,32),(2,33)]  ?_;(conv=>whnf);refine dO hk ?_)
   (refine cL ?_;refine dL (zjq s.cum c.tag) ?_)
   rw [show (zdd s.cum c.tag != zdd s.cum c.tag)=false from bne_self_eq_false _];(conv=>whnf);refine sD ?_;have hcl:(Sco.zha s.out s.cum c ((s.paths.map Path.row).length:Nat)).2.2.1.length=s.paths.length:=by
    rw [Sco.zha,zy0 k1];simp only [Sco.zvt];rw [zy3];rfl
   have hid:s.paths.mapIdx (fun _ p=>p)=s.paths:=by apply List.ext_getElem<;>simp
   have epl:(s.paths.map Path.row).length=s.paths.length:=zy3 _;rw [<- epl] at hT hks hlo;generalize Sco.zha s.out s.cum c ((s.paths.map Path.row).length:Nat)=K at hcl hK hk hT hks hlo ⊢;rw [hK] at hT;refine ⟨{x:List Int×List Int // K.2.2.1=x.1++x.2},fun | ⟨(A,B),_⟩=>hs 133 [(2,.ptr 2 0),(4,.ptr 4 0),(5,.ptr 5 0),(9,.own 907),(10,zbo (decide (zdd s.cum c.tag>s.cum))),(55,.own 906),(56,i64 s.paths.length),(57,i64 A.length)] ((2,.live (.cells 32 (yza s (Sch.qs s.queue) (ints s.sched.had) (Sco.zrr s.out) (xfl s.paths) (ints s.mids) (ints s.fates))))::(4,.live (.cells 32 yow))::(5,.live (.cells 32 (yza {s with cum:=zdd s.cum c.tag,room:=c.room} (.own 900) (.own 901) (.own 902) (.own 903) (.own 904) (.own 905))))::zxa {s with out:=K.1,paths:=ziz s.paths s.config.part (decide (zdd s.cum c.tag>s.cum)) A} 900 901 902 903 904 905 [(906,ynt K.2.2.1),(907,ynt K.2.2.2)]),fun x=>x.1.2.length,⟨([],K.2.2.1),rfl⟩,?_,?_⟩
   . exact (zcl [(2,some 2),(4,some 4),(5,some 5),(900,some 20),(901,some 21),(902,some 31),(903,some 23),(904,some 24),(905,some 25),(906,some 32),(907,some 33)] (by repeat' (first | exact z0 | refine z1 ?_ | refine ⟨?_,?_⟩ | ((exact zbe (by rw [zy3];omega))) | ((exact zaq (by simp [ziz,hid]))) | exact z2)))
   rintro ⟨⟨A,B⟩,h⟩;dsimp only at h;(conv=>whnf);cases B with
   | cons n B =>
    have hz:=zbz h;obtain ⟨p,hp⟩:∃ p,s.paths[A.length]?=some p:=⟨_,zy2 zz0⟩
    have hpl:A.length<(ziz s.paths s.config.part (decide (zdd s.cum c.tag>s.cum)) A).length:=by rw [ziz,zy123];omega
    refine sT ?_;refine sOm ?_;refine zak (f:=fun n:Int=>[pi n]) h rfl (zw ?_);by_cases d1:n>0
    case pos =>
     rw [show decide (n>0)=true from zy19 d1];(conv=>whnf);refine zaa ⟨by omega,by rw [zy3];exact_mod_cast hpl⟩ (zw ?_);refine zaj (zxx.trans hp) rfl (zw ?_)
     (refine cL ?_;refine dL (Paths.ynw p n s.config.part (decide (zdd s.cum c.tag>s.cum))) ?_)
     refine zaa ⟨by omega,by rw [zy3];exact_mod_cast hpl⟩ (zw ?_);refine zaj (zxx.trans hp) rfl (zw ?_);refine sD ?_;refine sF ?_;exact ⟨⟨(A++[n],B),zan h⟩,(zcl ((2,some 2)::((4,some 4)::(5,some 5)::(pJ8 []))) (by repeat' (first | exact z0 | refine z1 ?_ | refine ⟨?_,?_⟩ | ((exact (zel rfl).trans (zaq (by rw [zvu hp,zy1 d1];rfl)))) | exact z2))),by simp⟩
    case neg =>
     rw [show decide (n>0)=false from zy30 d1];(conv=>whnf);refine sF ?_;exact ⟨⟨(A++[n],B),zan h⟩,(zcl ((2,some 2)::((4,some 4)::(5,some 5)::(pJ8 []))) (by repeat' (first | exact z0 | refine z1 ?_ | refine ⟨?_,?_⟩ | ((exact zaq (by rw [zvu hp,zy0 d1,zoo (zxx.trans hp)]))) | exact z2))),by simp⟩
   | nil =>
    have hz:=zco h;rw [zy7] at h;refine sN ?_;have hcp:(ziz s.paths s.config.part (decide (zdd s.cum c.tag>s.cum)) A).length=s.paths.length:=by rw [ziz,zy123]
    (refine zac [] [(1000,5),(1001,900),(1002,901),(1003,902),(1004,903),(1005,904),(1006,905)] [(0,930),(1,931),(2,932),(3,933),(4,934),(5,935)] ?_;(conv=>whnf);refine dG (zzz {s with cum:=zdd s.cum c.tag,room:=c.room,out:=K.1,paths:=ziz s.paths s.config.part (decide (zdd s.cum c.tag>s.cum)) A} hks zz66) ?_)
    rw [show zhd s c K=zei {s with cum:=zdd s.cum c.tag,room:=c.room,out:=K.1,paths:=ziz s.paths s.config.part (decide (zdd s.cum c.tag>s.cum)) A} by rw [zhd,hK,h]] at hT;have hfl:(zei {s with cum:=zdd s.cum c.tag,room:=c.room,out:=K.1,paths:=ziz s.paths s.config.part (decide (zdd s.cum c.tag>s.cum)) A}).paths.length=s.paths.length:=by
     show (List.mapIdx _ _).length=_;rw [zy123];exact hcp
    have hfo:(zei {s with cum:=zdd s.cum c.tag,room:=c.room,out:=K.1,paths:=ziz s.paths s.config.part (decide (zdd s.cum c.tag>s.cum)) A}).out=K.1:=rfl;have hft:Fit (zei {s with cum:=zdd s.cum c.tag,room:=c.room,out:=K.1,paths:=ziz s.paths s.config.part (decide (zdd s.cum c.tag>s.cum)) A}):=⟨h1,h2,hks,by omega,h5,h6,h7⟩
    generalize zei {s with cum:=zdd s.cum c.tag,room:=c.room,out:=K.1,paths:=ziz s.paths s.config.part (decide (zdd s.cum c.tag>s.cum)) A}=t at hT hfl hfo hft ⊢;generalize decide (zdd s.cum c.tag>s.cum)=mv at hT ⊢;have hpl:=hr.p0;obtain ⟨hch,hch2⟩:=zdw (s:=t) zz0;obtain ⟨w,hw⟩:∃ w,t.paths[choose t]?=some w:=⟨_,zy2 hch2⟩
    obtain ⟨K1,K2,K3,K4⟩:=K;dsimp only at hT hcl hK hks h hz hfo hlo ⊢;rcases zy130 K4 with rfl | ⟨L,z,rfl⟩
    case inl =>
     rw [show zhs s.config.part t []=t from rfl] at hT;(conv=>whnf);refine sD ?_;exact yy3
    case inr =>
     rw [zy111] at hT ⊢;have hU:zhs s.config.part t (L++[z])=if z>t.recover then upS t s.config.part w else t:=by
      unfold zhs;rw [List.getLast?_concat];dsimp only;rw [upS,setAt,hw]
     rw [hU] at hT;have hll:((L++[z]).map (fun n:Int=>[pi n])).length=L.length+1:=by simp
     have hLl:L.length<2 ^ 38:=by
      have:=hlo;rw [zy111,zy8] at this;simp only [zy6,zy13] at this;have:=h3.len;omega
     rw [show decide (((List.map (fun n:Int=>[pi n]) (L++[z])).length:Int)>0)=true from zy19 (by omega)];(conv=>whnf);refine sFm ?_;refine zaa zz0 (zw ?_);refine zak (f:=fun n:Int=>[pi n]) (a:=L) (b:=[]) (s:=z) rfl zz0 (zw ?_);refine sD ?_;by_cases e0:z>t.recover
     case neg =>
      rw [zy0 e0] at hT;rw [show decide (z>t.recover)=false from zy30 e0];(conv=>whnf)
      repeat refine sG ?_
      exact yy3
     case pos =>
      rw [zy1 e0] at hT;rw [show decide (z>t.recover)=true from zy19 e0];(conv=>whnf);have pc:=Paths.zdy t.paths zz0;rw [hch] at pc
      (refine cL ?_;refine dL pc ?_)
      refine zaa zz14 (zw ?_);refine zaj hw rfl (zw ?_)
      (refine cL ?_;refine dL (Paths.zkj w s.config.part) ?_)
      refine zaa zz14 (zw ?_);refine zaj hw rfl (zw ?_);refine sD ?_;refine sR ?_
      (refine zac [] [(1000,932)] [(0,960)] ?_;(conv=>whnf);refine dG (Sco.zem t.out t.cum zz86) ?_)
      cases mv with
      | false =>
       rw [show zfy false (upS t s.config.part w)=(upS t s.config.part w) from zy0 (fun h=>absurd h.1 (by decide))] at hT;subst hT;(conv=>whnf)
       (refine zac [] [(1000,5),(1001,930),(1002,931),(1003,932),(1004,933),(1005,934),(1006,935)] [(0,980),(1,981),(2,982),(3,983),(4,984),(5,985)] ?_;(conv=>whnf);refine dG (zen (upS t s.config.part w) ((Fit.up hft))) ?_ ⟨rfl,rfl,rfl,⟨zz1,⟨zz1,⟨zz1,⟨zz1,⟨⟨rfl,_,rfl,.inl ⟨rfl,(zel rfl)⟩⟩,⟨zz1,⟨zz1,trivial⟩⟩⟩⟩⟩⟩⟩,⟨⟨rfl,rfl⟩,⟨⟨rfl,rfl⟩,⟨⟨rfl,rfl⟩,⟨⟨rfl,rfl⟩,⟨⟨rfl,rfl⟩,⟨⟨rfl,rfl⟩,trivial⟩⟩⟩⟩⟩⟩,rfl,rfl,rfl⟩)
       exact yy4
      | true =>
       (conv=>whnf);by_cases e1:(Sco.zez t.out t.cum).1>t.cum
       case pos =>
        rw [show zfy true (upS t s.config.part w)={(upS t s.config.part w) with forward:=true} from zy1 ⟨rfl,e1⟩] at hT;subst hT;rw [show decide ((Sco.zez t.out t.cum).1>t.cum)=true from zy19 e1];(conv=>whnf)
        (refine zac [] [(1000,5),(1001,930),(1002,931),(1003,932),(1004,933),(1005,934),(1006,935)] [(0,980),(1,981),(2,982),(3,983),(4,984),(5,985)] ?_;(conv=>whnf);refine dG (zen ({(upS t s.config.part w) with forward:=true}:zab) ((Fit.fwd (Fit.up hft)))) ?_ ⟨rfl,rfl,rfl,⟨zz1,⟨zz1,⟨zz1,⟨zz1,⟨⟨rfl,_,rfl,.inl ⟨rfl,(zel rfl)⟩⟩,⟨zz1,⟨zz1,trivial⟩⟩⟩⟩⟩⟩⟩,⟨⟨rfl,rfl⟩,⟨⟨rfl,rfl⟩,⟨⟨rfl,rfl⟩,⟨⟨rfl,rfl⟩,⟨⟨rfl,rfl⟩,⟨⟨rfl,rfl⟩,trivial⟩⟩⟩⟩⟩⟩,rfl,rfl,rfl⟩)
        exact yy4
       case neg =>
        rw [show zfy true (upS t s.config.part w)=(upS t s.config.part w) from zy0 (fun h=>e1 h.2)] at hT;subst hT;rw [show decide ((Sco.zez t.out t.cum).1>t.cum)=false from zy30 e1];(conv=>whnf)
        (refine zac [] [(1000,5),(1001,930),(1002,931),(1003,932),(1004,933),(1005,934),(1006,935)] [(0,980),(1,981),(2,982),(3,983),(4,984),(5,985)] ?_;(conv=>whnf);refine dG (zen (upS t s.config.part w) ((Fit.up hft))) ?_ ⟨rfl,rfl,rfl,⟨zz1,⟨zz1,⟨zz1,⟨zz1,⟨⟨rfl,_,rfl,.inl ⟨rfl,(zel rfl)⟩⟩,⟨zz1,⟨zz1,trivial⟩⟩⟩⟩⟩⟩⟩,⟨⟨rfl,rfl⟩,⟨⟨rfl,rfl⟩,⟨⟨rfl,rfl⟩,⟨⟨rfl,rfl⟩,⟨⟨rfl,rfl⟩,⟨⟨rfl,rfl⟩,trivial⟩⟩⟩⟩⟩⟩,rfl,rfl,rfl⟩)
        exact yy4
theorem yto (s:zab) (c:Chunk) (hs:Fit s) (hr:Sco.yme s.out s.cum s.paths.length) (hsp:c.zax.length<2 ^ 60) :
 zao Tryz.prog 34 [s.hv,c.hv] zae (yfh s c).hv zae:=by
 refine zcg Tryz.func34 (yoc s c hs hr hsp) ?_;(conv=>whnf)
 rfl
end Snd
namespace Snd
open Ser
structure QI (c:Config) (fates:List Int) (m:zag):Prop where
 id0:0<=m.id
 id1:m.id<fates.length
 fate:fates[m.id.toNat]?=some 1
 st0:0<=m.message.stream
 st1:m.message.stream<c.streams
 len1:1<=m.message.data.length
 len2:m.message.data.length<=60
 parts:0<=m.parts
 sent:m.sent=m.parts*c.part
 left:m.sent<m.message.data.length
structure XI (np nf:Nat) (x:zbp):Prop where
 path0:0<=x.path
 path1:x.path<np
 id0:0<=x.id
 id1:x.id<nf
 zax:x.chunk.zax=[]
 zbs:x.chunk.zbs=[]
 data:x.chunk.data.length<=16
def zok (q:List zag):Int:=(q.map fun m=>61-m.parts).sum
structure SI (N:Nat) (s:zab):Prop where
 cfg:zpe s.config=0
 nums:∀ (i:Nat) x,s.out[i]?=some x->x.number=s.cum+1+i
 next:s.next=s.cum+1+s.out.length
 cum:s.config.first-1<=s.cum
 owes:s.next+zok s.queue<=s.config.first+61*s.fates.length
 npaths:(s.paths.length:Int)=s.config.paths
 nhad:(s.sched.had.length:Int)=s.config.streams
 nmids:(s.mids.length:Int)=2*s.config.streams
 waits:(s.queue.length:Int)<=s.config.waiting
 queue:∀ m∈s.queue,QI s.config s.fates m
 out:∀ x∈s.out,XI s.paths.length s.fates.length x
 zbd:∀ (i:Nat) p,s.paths[i]?=some p->p.zbd=Sco.fl i s.out
 many:s.fates.length<=N
 few:N<=2 ^ 20
theorem zcj {c:Config} (h:zpe c=0):1<=c.streams/\c.streams<=4/\1<=c.paths/\c.paths<=2/\1<=c.part/\c.part<=16/\40<=c.packet/\c.packet<=120/\1<=c.waiting/\c.waiting<=12/\0<=c.first/\c.first<65536/\1<=(c).turns/\(c).turns<=5:=by
 unfold zpe at h;split at h
 . cases h
 . split at h
   . cases h
   . omega
theorem QI.few {c:Config} {fates:List Int} {m:zag} (h:QI c fates m) (hp:1<=c.part):m.parts<=59:=by
 have h1:=h.sent;have h2:=h.left;have h3:=h.len2;have h4:=h.parts;have h5:m.parts*1<=m.parts*c.part:=Int.mul_le_mul_of_nonneg_left hp h4;omega
theorem zzi {c:Config} {fates:List Int} (hp:1<=c.part):∀ {q:List zag},(∀ m∈q,QI c fates m)->0<=zok q
 | [],_=>by simp [zok]
 | m::q,h=>by
  have h1:=(h m zz4).few hp;have h2:=zzi hp (q:=q) fun x hx=>h x zz29
  simp only [zok,zy21,zy80] at h2 ⊢;omega
theorem zli (m:zag) (q:List zag):zok (m::q)=61-m.parts+zok q:=by simp [zok]
theorem zma (a b:List zag):zok (a++b)=zok a+zok b:=by simp [zok]
section
variable {N:Nat} {s:zab}
theorem SI.len (h:SI N s):(s.out.length:Int)<=61*N:=by
 have h1:=h.next;have h2:=h.cum;have h3:=h.owes;have h4:=zzi (by have:=zcj h.cfg;omega) h.queue;have h5:=h.many;omega
theorem SI.nextle (h:SI N s):s.next<=65536+61*N:=by
 have h3:=h.owes;have h4:=zzi (by have:=zcj h.cfg;omega) h.queue;have h5:=h.many;have h6:=zcj h.cfg;omega
theorem ylx:∀ {l:List zbp},(∀ x∈l,x.chunk.data.length<=16)->Sco.total l<=16*l.length
 | [],_=>by simp [Sco.total]
 | x::l,h=>by
  have h1:=h x zz4;have h2:=ylx (l:=l) fun y hy=>h y zz57
  rw [Sco.zhm,zy6];omega
theorem SI.total (h:SI N s):(Sco.total s.out:Int)<=16*(61*N):=by
 have h1:=ylx fun x hx=>(h.out x hx).data
 have h2:=h.len;omega
theorem SI.fit (h:SI N s):Fit s:=by
 have h1:=h.len;have h2:=h.few;have h3:=h.total;have h4:=zcj h.cfg;have h5:=h.npaths;have h6:=h.nhad;have h7:=h.nmids;have h8:=h.waits;have h9:=h.many;exact ⟨by omega,by omega,⟨by omega,by omega⟩,by omega,by omega,by omega,fun m hm=>by have:=(h.queue m hm).len2;omega⟩
theorem SI.right (h:SI N s):Sco.yme s.out s.cum s.paths.length:=by
 have h1:=h.npaths;have h2:=zcj h.cfg;have h3:=h.nextle;have h4:=h.next;have h5:=h.cum;have h6:=h.few;exact ⟨fun x hx=>⟨(h.out x hx).path0,(h.out x hx).path1⟩,by omega,by omega,by omega,by omega,h.nums⟩
theorem SI.pf (h:SI N s):PF 62 s:=by
 have h1:=h.len;have h2:=h.few;have h3:=h.total;have h4:=zcj h.cfg;have h5:=h.npaths;have h6:=h.nhad;have h7:=h.nmids;have h8:=h.waits;have h9:=h.many;refine ⟨⟨h.fit,by omega,fun m hm=>⟨(h.queue m hm).id0,(h.queue m hm).id1⟩,fun x hx=>⟨(h.out x hx).id0,(h.out x hx).id1⟩⟩,by omega,by omega,by omega,fun m hm=>?_,fun x hx=>?_,by omega,by omega⟩
 . have q:=h.queue m hm
   have q1:=q.st0;have q2:=q.st1;have q3:=q.len2;have q4:=q.sent;have q5:=q.parts;have q6:0<=m.parts*s.config.part:=zy129 q5 zz0;refine ⟨⟨q1,by omega,by omega,by omega,fun _=>?_⟩,by omega,by omega,q.left,by omega⟩;unfold zgw;split<;>omega
 . have q:=h.out x hx
   exact ⟨by rw [q.zax];decide,by rw [q.zbs];decide⟩
theorem SI.mono {M:Nat} (h:SI N s) (h1:N<=M) (h2:M<=2 ^ 20):SI M s:=⟨h.cfg,h.nums,h.next,h.cum,h.owes,h.npaths,h.nhad,h.nmids,h.waits,h.queue,h.out,h.zbd,zy84 h.many h1,h2⟩
end
theorem xeh {c:Config} (h:zpe c=0):SI 0 (zrb c):=by
 obtain ⟨h1,h2,h3,h4,h5,h6,h7,h8,h9,h10,h11,h12,h13,h14⟩:=zcj h;refine ⟨h,fun i x hx=>?_,?_,?_,?_,?_,?_,?_,?_,fun m hm=>?_,fun x hx=>?_,fun i p hp=>?_,?_,by decide⟩
 . simp [zrb] at hx
 . simp [zrb]
 . show c.first-1<=c.first-1;omega
 . show c.first+zok []<=c.first+61*(([]:List Int).length:Int);simp [zok]
 . show ((List.replicate c.paths.toNat (Paths.new c.part)).length:Int)=c.paths;simp;omega
 . show ((Sch.new c.streams).had.length:Int)=c.streams
   simp [Sch.new];omega
 . show ((List.replicate (2*c.streams).toNat (0:Int)).length:Int)=2*c.streams;simp;omega
 . show (([]:List zag).length:Int)<=c.waiting;simp;omega
 . simp [zrb] at hm
 . simp [zrb] at hx
 . have hp:(List.replicate c.paths.toNat (Paths.new c.part))[i]?=some p:=hp
   rw [zy120] at hp;split at hp
   . cases hp;simp [Paths.new,Sco.fl,zrb]
   . cases hp
 . show ([]:List Int).length<=0;simp
theorem QI.more {c:Config} {fates:List Int} {m:zag} (h:QI c fates m) (f:Int):QI c (fates++[f]) m :=
 ⟨h.id0,by have:=h.id1;simp;omega,by have:=h.id0;have:=h.id1;rw [zy22 (by omega)];exact h.fate,h.st0,h.st1,h.len1,h.len2,h.parts,h.sent,h.left⟩
theorem XI.more {np nf nf':Nat} {x:zbp} (h:XI np nf x) (hn:nf<=nf'):XI np nf' x:=⟨h.path0,h.path1,h.id0,by have:=h.id1;omega,h.zax,h.zbs,h.data⟩
theorem zzt {N:Nat} {s:zab} {m:Message} (h:SI N s) (he:zfq s m=0) (hN:N+1<=2 ^ 20):SI (N+1) (zjm s m):=by
 unfold zfq at he;split at he
 . cases he
 split at he
 . cases he
 split at he
 . cases he
 rename_i c1 c2 c3;refine ⟨h.cfg,h.nums,h.next,h.cum,?_,h.npaths,h.nhad,h.nmids,?_,fun q hq=>?_,fun x hx=>(h.out x hx).more (by simp [zjm]),h.zbd,?_,hN⟩
 . have h1:=h.owes
   show s.next+zok (s.queue++[⟨s.fates.length,-1,s.clock,0,0,m⟩])<=s.config.first+61*((s.fates++[1]).length:Int);rw [zma,zli];simp only [zok,zy115,List.sum_nil,zy8,zy6,zy13] at h1 ⊢;push_cast;omega
 . show ((s.queue++[_]).length:Int)<=s.config.waiting
   simp;omega
 . rcases zy11.1 hq with hq | hq
   . exact (h.queue q hq).more 1
   . rw [zy9] at hq;subst hq
     exact ⟨by simp,by simp [zjm];omega,by simp [zjm],by dsimp only;omega,by show m.stream<s.config.streams;omega,by dsimp only;omega,by dsimp only;omega,by simp,by simp,by dsimp only;omega⟩
 . have:=h.many
   show (s.fates++[1]).length<=N+1;simp;omega
theorem ypv (id:Int) (s:zab) (m:zag) (hm:m.parts<=60):W (s.next+1)=s.next+1->(zef id s m).next+zok ([m].filter fun m=>decide (m.id≠id))<=s.next+zok [m]:=by
 intro hW;unfold zef;by_cases c:m.id=id
 . have e1:[m].filter (fun m=>decide (m.id≠id))=[]:=by simp [c]
   rw [e1];split
   . show W (s.next+1)+zok []<=_
     simp only [zok,zy115,List.sum_nil,zy21,zy80];omega
   . simp only [zok,zy115,List.sum_nil,zy21,zy80];omega
 . rw [zy0 (fun h=>c h.1)]
   simp [c,zok]
theorem yis (id:Int):∀ (q:List zag) (s:zab),(∀ m∈q,m.parts<=60)->-1000<=s.next->s.next+q.length<2 ^ 60->s.next=s.cum+1+s.out.length->(∀ (i:Nat) x,s.out[i]?=some x->x.number=s.cum+1+i) ->
 (q.foldl (zef id) s).next=s.cum+1+(q.foldl (zef id) s).out.length/\(∀ (i:Nat) x,(q.foldl (zef id) s).out[i]?=some x->x.number=s.cum+1+i)/\(q.foldl (zef id) s).next+zok (q.filter fun m=>decide (m.id≠id))<=s.next+zok q
 | [],s,_,_,_,h1,h2=>⟨h1,h2,zy91 _⟩
 | m::q,s,hq,h0,hb,h1,h2=>by
  have hW:W (s.next+1)=s.next+1:=by simp only [zy6] at hb;exact zbn zz0 zz0
  have hk:=zvx id s m;have hcum:(zef id s m).cum=s.cum:=by rw [hk]
  have ho:=ypv id s m (hq m zz4) hW;have h1':(zef id s m).next=(zef id s m).cum+1+(zef id s m).out.length/\s.next<=(zef id s m).next/\(zef id s m).next<=s.next+1:=by
   unfold zef;split
   . dsimp only;rw [hW];simp;omega
   . exact ⟨h1,by omega,by omega⟩
  have h2':∀ (i:Nat) x,(zef id s m).out[i]?=some x->x.number=(zef id s m).cum+1+i:=by
   rw [hcum];unfold zef;split
   . intro i x hx
     have hx:(s.out++[zhh s.next m])[i]?=some x:=hx;rcases zy62 i s.out.length with hi | hi
     . rw [zy22 hi] at hx;exact h2 i x hx
     . rw [zy35 hi] at hx
       have:i-s.out.length=0:=by
        rcases zy109 (i-s.out.length) with h | h
        . exact h
        . rw [zy42 (by simp;omega)] at hx;cases hx
       rw [this] at hx;cases hx;show s.next=_;omega
   . exact h2
  obtain ⟨r1,r2,r3⟩:=yis id q (zef id s m) (fun x hx=>hq x zz29) zz0 (by simp only [zy6] at hb;push_cast at hb;omega) h1'.1 h2';rw [zy56];rw [hcum] at r1 r2;refine ⟨r1,r2,?_⟩;have e1:(m::q).filter (fun m=>decide (m.id≠id))=[m].filter (fun m=>decide (m.id≠id))++q.filter fun m=>decide (m.id≠id):=by rw [<- zy71];rfl
  rw [e1,zma,zli];simp only [zok,zy21,zy115,zy80,List.sum_nil] at ho r3 ⊢;omega
theorem ypx {np nf:Nat} (id:Int) (hnp:0<np) (hid:0<=id/\id<nf):∀ (q:List zag) (s:zab),(∀ x∈s.out,XI np nf x)->∀ x∈(q.foldl (zef id) s).out,XI np nf x
 | [],s,h,x,hx=>h x hx
 | m::q,s,h,x,hx=>by
  refine ypx id hnp hid q (zef id s m) (fun y hy=>?_) x hx;unfold zef at hy;split at hy
  . rename_i c
    rcases zy11.1 hy with hy | hy
    . exact h y hy
    . rw [zy9] at hy;subst hy
      exact ⟨zy91 _,by show (0:Int)<np;omega,by show 0<=m.id;omega,by show m.id<nf;omega,rfl,rfl,by simp [zhh]⟩
  . exact h y hy
theorem zwa {s:zab} {i:Nat} {p:Path} (h:(zei s).paths[i]?=some p):p.zbd=Sco.fl i s.out:=by
 have h:(s.paths.mapIdx fun i p=>flP s.out i p)[i]?=some p:=h;rw [zy76] at h;cases hp:s.paths[i]? with
 | none=>rw [hp] at h;cases h
 | some q=>rw [hp] at h;cases h;rfl
theorem zry (s:zab) (id:Nat):(zev s id).out=(s.queue.foldl (zef id) {s with fates:=s.fates.set id 3}).out.map (Sco.zhb id):=rfl
theorem ybt (s:zab) (id:Nat):(zev s id).next=(s.queue.foldl (zef id) {s with fates:=s.fates.set id 3}).next:=rfl
theorem zjf (s:zab) (id:Nat):(zev s id).queue=s.queue.filter fun m=>decide (m.id≠(id:Int)):=rfl
theorem zfe (s:zab) (id:Nat):(zev s id).fates=s.fates.set id 3:=by
 show (s.queue.foldl (zef id) {s with fates:=s.fates.set id 3}).fates=_;rw [zpk]
theorem ygg {s:zab} {id:Nat} {i:Nat} {p:Path} (h:(zev s id).paths[i]?=some p):p.zbd=Sco.fl i (zev s id).out:=by
 unfold zev at h ⊢;dsimp only at h ⊢;have:=zwa h;exact this
theorem zyl {N:Nat} {s:zab} (h:SI N s) {id:Nat} (hid:id<s.fates.length):SI N (zev s id):=by
 obtain ⟨r,-,-,-⟩:=zhq s id;have hw:=zcj h.cfg;have hl:=h.nextle;have hw2:=h.waits;have hf:=h.few;have hc:=h.cum;have hn:=h.next;obtain ⟨e1,e2,e3⟩:=yis id s.queue {s with fates:=s.fates.set id 3} (fun m hm=>by have:=(h.queue m hm).few zz0;omega) zz66 zz66 h.next h.nums;refine ⟨by rw [r.config];exact h.cfg,fun i x hx=>?_,?_,by rw [r.config,r.cum];exact h.cum,?_,by rw [r.paths,r.config];exact h.npaths,by rw [r.had,r.config];exact h.nhad,by rw [r.mids,r.config];exact h.nmids,?_,fun m hm=>?_,fun x hx=>?_,fun i p hp=>?_,by rw [r.fates];exact h.many,h.few⟩
 . rw [zry,zy16] at hx
   cases hy:(s.queue.foldl (zef id) {s with fates:=s.fates.set id 3}).out[i]? with
   | none=>rw [hy] at hx;cases hx
   | some y =>
    rw [hy] at hx;cases hx;rw [r.cum,show (Sco.zhb id y).number=y.number by unfold Sco.zhb;split<;>rfl];exact e2 i y hy
 . rw [ybt,zry,r.cum,zy3];exact e1
 . rw [ybt,zjf,r.config,r.fates]
   have:=h.owes;dsimp only at e3;omega
 . rw [zjf,r.config]
   have:=zy55 (fun m:zag=>decide (m.id≠(id:Int))) s.queue;omega
 . rw [zjf] at hm
   obtain ⟨hm1,hm2⟩:=zy40.1 hm;have hm2:m.id≠id:=zy36 hm2;have q:=h.queue m hm1;have q0:=q.id0;rw [r.config,zfe];exact ⟨q.id0,by rw [zy26];exact q.id1,by rw [zy49 (by omega)];exact q.fate,q.st0,q.st1,q.len1,q.len2,q.parts,q.sent,q.left⟩
 . rw [zry] at hx
   obtain ⟨y,hy,rfl⟩:=zy18.1 hx;have hp:=h.npaths;have:=ypx (np:=s.paths.length) (nf:=s.fates.length) id zz0 ⟨by omega,by omega⟩ s.queue {s with fates:=s.fates.set id 3} h.out y hy;rw [r.paths,r.fates];unfold Sco.zhb;split
   . exact ⟨this.path0,this.path1,this.id0,this.id1,this.zax,this.zbs,this.data⟩
   . exact this
 . exact ygg hp
theorem xac {N:Nat} {s:zab} (h:SI N s) {m:zag} (hm:0<=m.id/\m.id<s.fates.length):SI N (zju s m)/\(zju s m).fates.length=s.fates.length:=by
 unfold zju;exact yy79
theorem xaf {N:Nat} {s:zab} (h:SI N s) {m:zbp} (hm:0<=m.id/\m.id<s.fates.length):SI N (zhk s m)/\(zhk s m).fates.length=s.fates.length:=by
 unfold zhk;exact yy79
theorem zlx {N:Nat}:∀ (q:List zag) (s:zab),SI N s->(∀ m∈q,0<=m.id/\m.id<s.fates.length)->SI N (q.foldl zju s)/\(q.foldl zju s).fates.length=s.fates.length
 | [],s,h,_=>⟨h,rfl⟩
 | m::q,s,h,hq=>by
  obtain ⟨a,b⟩:=xac h (hq m zz4);obtain ⟨c,d⟩:=zlx q (zju s m) a fun x hx=>by rw [b];exact hq x zz29
  exact ⟨c,d.trans b⟩
theorem yjf {N:Nat}:∀ (q:List zbp) (s:zab),SI N s->(∀ m∈q,0<=m.id/\m.id<s.fates.length)->SI N (q.foldl zhk s)/\(q.foldl zhk s).fates.length=s.fates.length
 | [],s,h,_=>⟨h,rfl⟩
 | m::q,s,h,hq=>by
  obtain ⟨a,b⟩:=xaf h (hq m zz4);obtain ⟨c,d⟩:=yjf q (zhk s m) a fun x hx=>by rw [b];exact hq x zz29
  exact ⟨c,d.trans b⟩
theorem ybl {N:Nat} {s:zab} (h:SI N s):SI N (expire s)/\(expire s).fates.length=s.fates.length:=by
 obtain ⟨a,b⟩:=zlx s.queue s h fun m hm=>⟨(h.queue m hm).id0,(h.queue m hm).id1⟩
 obtain ⟨c,d⟩:=yjf (s.queue.foldl zju s).out _ a fun x hx=>⟨(a.out x hx).id0,(a.out x hx).id1⟩
 exact ⟨c,d.trans b⟩
end Snd
namespace Snd
open Ser
theorem zjo {α:Type} (l:List α) (k:Nat) (f:α->α):(setAt l k f).length=l.length:=by
 unfold setAt;split<;>simp
theorem zuj {α:Type} {l:List α} {k:Nat} {f:α->α} {i:Nat} {y:α} (h:(setAt l k f)[i]?=some y):(i≠k/\l[i]?=some y)\/(i=k/\∃ x,l[k]?=some x/\y=f x):=by
 unfold setAt at h;split at h
 . rename_i hn
   by_cases e:i=k
   . subst e;rw [hn] at h;cases h
   . exact .inl ⟨e,h⟩
 . rename_i x hx
   by_cases e:i=k
   . subst e
     have hk:=(zy10.1 hx).1;rw [zy20 hk] at h;cases h;exact .inr ⟨rfl,x,hx,rfl⟩
   . rw [zy49 (fun h=>e h.symm)] at h;exact .inl ⟨e,h⟩
theorem zpn (p:Int) (x:zbp) (l:List zbp):Sco.fl p (x::l)=Sco.fl p [x]+Sco.fl p l:=by
 rw [show x::l=[x]++l from rfl,Sco.yqd]
theorem yyi (p:Int):∀ {l:List zbp} {i:Nat} {x:zbp},l[i]?=some x->∀ y,Sco.fl p (l.set i y)+Sco.fl p [x]=Sco.fl p l+Sco.fl p [y]
 | [],i,x,h,y=>by simp at h
 | z::l,0,x,h,y=>by
  simp only [List.getElem?_cons_zero,Option.some.injEq] at h;subst h;rw [List.set_cons_zero,zpn,zpn p z l];omega
 | z::l,i+1,x,h,y=>by
  simp only [zy82] at h;have:=yyi p h y;rw [zy143,zpn,zpn p z l];omega
section
variable {N:Nat} {s:zab}
theorem SI.side (h:SI N s) {ps:List Path} {k:Int} {r:Int} {f:Bool} {z:Int} (hl:ps.length=s.paths.length) (hf:∀ (i:Nat) p,ps[i]?=some p->p.zbd=Sco.fl i s.out) :
 SI N {s with paths:=ps,clock:=k,room:=r,forward:=f,recover:=z} :=
 ⟨h.cfg,h.nums,h.next,h.cum,h.owes,by show (ps.length:Int)=_;rw [hl];exact h.npaths,h.nhad,h.nmids,h.waits,h.queue,fun x hx=>by show XI ps.length _ x;rw [hl];exact h.out x hx,hf,h.many,h.few⟩
theorem choose_lt' (h:SI N s):choose s<s.paths.length:=(zdw h.pf.some).2
theorem zwc {o:List (List Chunk)} (h:SI N s):SI N (forward ⟨s,o⟩).s:=by
 unfold forward;split
 . exact h
 . refine h.side (zjo _ _ _) fun i p hp=>?_
   rcases zuj hp with ⟨-,hp⟩ | ⟨rfl,q,hq,rfl⟩
   . exact h.zbd i p hp
   . rw [<- h.zbd _ q hq]
     unfold zcw;split<;>rfl
theorem yym {p:zgn} (h:SI N p.s) {i path:Nat} {x:zbp} (hx:p.s.out[i]?=some x) (hst:x.state≠1) (hp:path<p.s.paths.length):SI N (fly p i path).s:=by
 obtain ⟨s,o⟩:=p;dsimp only at h hx hp;have hxm:=zy4 hx;have hxi:=h.out x hxm;have hil:=(zy10.1 hx).1;have hw:=zcj h.cfg;have hnp:=h.npaths;have htot:=h.total;have hfew:=h.few;have h0:∀ q:Int,Sco.fl q [x]=0:=fun q=>by rw [Sco.zvz,zy0 (fun h=>hst h.1)]
 unfold fly;simp only [hx];refine ⟨h.cfg,fun j y hy=>?_,?_,h.cum,h.owes,?_,h.nhad,h.nmids,h.waits,h.queue,fun y hy=>?_,fun j q hq=>?_,h.many,h.few⟩
 . have hy:(s.out.set i (yal x path))[j]?=some y:=hy
   by_cases e:i=j
   . subst e
     rw [zy20 hil] at hy;cases hy;exact h.nums i x hx
   . rw [zy49 e] at hy;exact h.nums j y hy
 . show s.next=s.cum+1+((s.out.set i _).length:Int)
   rw [zy26];exact h.next
 . show ((setAt s.paths path _).length:Int)=_
   rw [zjo];exact h.npaths
 . have hy:y∈s.out.set i (yal x path):=hy
   show XI (setAt s.paths path _).length _ y;rw [zjo];rcases zy44 hy with hy | rfl
   . exact h.out y hy
   . exact ⟨by show (0:Int)<=path;omega,by show (path:Int)<s.paths.length;omega,hxi.id0,hxi.id1,hxi.zax,hxi.zbs,hxi.data⟩
 . show q.zbd=(Sco.fl j (s.out.set i (yal x path)):Nat)
   have e1:=yyi (j:Int) hx (yal x path);rw [h0] at e1;have e2:Sco.fl (j:Int) [yal x path]=if path=j then x.chunk.data.length else 0:=by
    rw [Sco.zvz];by_cases e:path=j
    . rw [zy1 e,zy1 ⟨rfl,by show (path:Int)=j;omega⟩];rfl
    . rw [zy0 e,zy0 (by rintro ⟨-,h⟩;have h:(path:Int)=j:=h;omega)]
   rcases zuj hq with ⟨ne,hq⟩ | ⟨rfl,w,hw2,rfl⟩
   . rw [h.zbd j q hq]
     rw [zy0 (fun h=>ne h.symm)] at e2;omega
   . rw [zy1 rfl] at e2
     have e3:=h.zbd j w hw2;have e4:=Sco.xah (j:Int) s.out;have e5:=hxi.data;show W (w.zbd+x.chunk.data.length)=_;rw [e3,zbn (by omega) (by omega)];omega
theorem ypj {p:zgn} (h:SI N p.s) {path:Nat} (hp:path<p.s.paths.length) (i:Nat):SI N (zdf path p i).s/\(zdf path p i).s.paths.length=p.s.paths.length:=by
 unfold zdf;split
 . exact ⟨h,rfl⟩
 . rename_i x hx
   split
   . rename_i c
     refine ⟨yym h hx (by rw [c.1];decide) hp,?_⟩;unfold fly;simp only [hx];exact zjo _ _ _
   . exact ⟨h,rfl⟩
theorem yau {path:Nat}:∀ (L:List Nat) {p:zgn},SI N p.s->path<p.s.paths.length->SI N (L.foldl (zdf path) p).s
 | [],_,h,_=>h
 | i::L,p,h,hp=>by
  obtain ⟨a,b⟩:=ypj h hp i;exact yau L a (by rw [b];exact hp)
theorem yif {p:zgn} (h:SI N p.s):SI N (again p).s:=yau _ h (choose_lt' h)
theorem ywz {q:List zag} {k:Nat} {m y:zag} (h:q[k]?=some m):zok (q.set k y)=zok q+m.parts-y.parts:=by
 obtain ⟨a,b,rfl,rfl⟩:∃ a b,q=a++m::b/\a.length=k:=⟨q.take k,q.drop (k+1),by
  have hk:=(zy10.1 h)
  obtain ⟨hk,e⟩:=hk;rw [<- e,zy108,zy23],by have:=(zy10.1 h).1;simp;omega⟩
 rw [List.set_append_right _ _ (zy25 _),zy90,List.set_cons_zero,zma,zma,zli,zli];omega
theorem ynp {q:List zag} {k:Nat} {m:zag} (h:q[k]?=some m):zok (q.eraseIdx k)=zok q+m.parts-61:=by
 obtain ⟨a,b,rfl,rfl⟩:∃ a b,q=a++m::b/\a.length=k:=⟨q.take k,q.drop (k+1),by
  have hk:=(zy10.1 h)
  obtain ⟨hk,e⟩:=hk;rw [<- e,zy108,zy23],by have:=(zy10.1 h).1;simp;omega⟩
 rw [List.eraseIdx_append_of_length_le (zy25 _),zy90,List.eraseIdx_cons_zero,zma,zma,zli];omega
theorem yng (s:zab) (m:zag):(zet s m).length=s.mids.length:=by
 unfold zet;split
 . exact zjo _ _ _
 . rfl
theorem xak (sc:zho) (m:zag) (n:Int) (o:Bool):(Sch.had sc m n o).had.length=sc.had.length:=by
 unfold Sch.had;dsimp only;split<;>simp
def yuq (s:zab) (k:Nat) (m:zag):zab :=
 {s with mids:=zet s m,sched:=Sch.had s.sched {m with mid:=zci s m} (many s m) (decide (m.sent+many s m=m.message.data.length)),out:=s.out++[⟨s.next,m.id,0,0,0,0,m.came,m.message.life,m.message.tries,cut s m (many s m)⟩],next:=W (s.next+1),queue:=if decide (m.sent+many s m=m.message.data.length) then s.queue.eraseIdx k else s.queue.set k {m with mid:=zci s m,sent:=m.sent+many s m,parts:=W (m.parts+1)}}
theorem zoj (s:zab) (o:List (List Chunk)) (k:Nat) (m:zag):yru ⟨s,o⟩ k m (many s m)=fly ⟨yuq s k m,o⟩ s.out.length (choose s):=rfl
theorem xdi (h:SI N s) {k:Nat} {m:zag} (hm:s.queue[k]?=some m):SI N (yuq s k m):=by
 have hw:=zcj h.cfg;have q:=h.queue m (zy4 hm);have hfew:=q.few zz0;have hN:=h.few;have hnl:=h.nextle;have hcum:=h.cum;have hnx:=h.next;have hp:=h.npaths;have q1:=q.parts;have q2:=q.sent;have q3:=q.left;have q4:=q.len2;have q5:0<=m.parts*s.config.part:=zy129 q1 zz0;obtain ⟨n1,n2,n3⟩:=zpt (s:=s) (m:=m) zz0 zz0 zz0 q3 zz0;have n4:many s m<=s.config.part:=by unfold many;split<;>omega
 have hW:W (s.next+1)=s.next+1:=zbn zz0 zz0;have hWp:W (m.parts+1)=m.parts+1:=zbn zz0 zz0;refine ⟨h.cfg,fun j y hy=>?_,?_,h.cum,?_,h.npaths,?_,?_,?_,fun y hy=>?_,fun y hy=>?_,fun j p hp=>?_,h.many,h.few⟩
 . have hy:(s.out++[_])[j]?=some y:=hy
   rcases zy62 j s.out.length with hj | hj
   . rw [zy22 hj] at hy;exact h.nums j y hy
   . rw [zy35 hj] at hy
     have e:j-s.out.length=0:=by
      rcases zy109 (j-s.out.length) with h | h
      . exact h
      . rw [zy42 (by simp;omega)] at hy;cases hy
     rw [e] at hy;cases hy;show s.next=s.cum+1+j;omega
 . show W (s.next+1)=s.cum+1+((s.out++[_]).length:Int)
   rw [hW,zy8,zy50];push_cast;omega
 . have:=h.owes
   show W (s.next+1)+zok (if decide (m.sent+many s m=m.message.data.length) then s.queue.eraseIdx k else s.queue.set k {m with mid:=zci s m,sent:=m.sent+many s m,parts:=W (m.parts+1)})<=s.config.first+61*(s.fates.length:Int);rw [hW];split
   . rw [ynp hm];omega
   . rw [ywz hm];dsimp only;rw [hWp];omega
 . show ((Sch.had s.sched _ _ _).had.length:Int)=_
   rw [xak];exact h.nhad
 . show ((zet s m).length:Int)=_
   rw [yng];exact h.nmids
 . show ((if decide (m.sent+many s m=m.message.data.length) then s.queue.eraseIdx k else s.queue.set k {m with mid:=zci s m,sent:=m.sent+many s m,parts:=W (m.parts+1)}).length:Int)<=s.config.waiting
   have:=h.waits;split
   . rw [zy92];split<;>omega
   . rw [zy26];exact this
 . have hy:y∈(if decide (m.sent+many s m=m.message.data.length) then s.queue.eraseIdx k else s.queue.set k {m with mid:=zci s m,sent:=m.sent+many s m,parts:=W (m.parts+1)}):=hy
   show QI s.config s.fates y;split at hy
   . exact h.queue y (zy65 hy)
   . rename_i c
     have c:m.sent+many s m≠m.message.data.length:=by simpa using c
     rcases zy44 hy with hy | rfl
     . exact h.queue y hy
     . have e:many s m=s.config.part:=by
        unfold many at c ⊢;split at c
        . omega
        . rename_i c2;rw [zy0 c2]
       refine ⟨q.id0,q.id1,q.fate,q.st0,q.st1,q.len1,q.len2,?_,?_,?_⟩
       . show 0<=W (m.parts+1);omega
       . show m.sent+many s m=W (m.parts+1)*s.config.part
         rw [hWp,e,q2,Int.add_mul,Int.one_mul]
       . show m.sent+many s m<m.message.data.length;omega
 . have hy:y∈s.out++[_]:=hy
   rcases zy11.1 hy with hy | hy
   . exact h.out y hy
   . rw [zy9] at hy;subst hy
     refine ⟨zy91 _,by show (0:Int)<s.paths.length;omega,q.id0,q.id1,rfl,rfl,?_⟩;show ((m.message.data.drop m.sent.toNat).take (many s m).toNat).length<=16;rw [zy69];omega
 . show p.zbd=(Sco.fl j (s.out++[_]):Nat)
   rw [Sco.yqd,h.zbd j p hp,Sco.zvz,zy0 (by rintro ⟨h,-⟩;cases h)];rfl
theorem yrw {p q:zgn} (h:SI N p.s) (hq:next p=some q):SI N q.s:=by
 obtain ⟨s,o⟩:=p;unfold next at hq;dsimp only at hq h;split at hq
 . cases hq
 rename_i c;cases hm:s.queue[(zeq s).toNat]? with
 | none=>rw [hm] at hq;cases hq
 | some m =>
  rw [hm] at hq;dsimp only at hq;split at hq
  . cases hq
  . cases hq
    rw [zoj];have h2:=xdi h hm;exact yym (p:=⟨yuq s (zeq s).toNat m,o⟩) h2 (x:=⟨s.next,m.id,0,0,0,0,m.came,m.message.life,m.message.tries,cut s m (many s m)⟩) (by show (s.out++[_])[s.out.length]?=_;simp) (by intro h;cases h) (choose_lt' h)
theorem yku:∀ (n:Nat) {p:zgn},SI N p.s->SI N (zgx n p).s
 | 0,_,h=>h
 | n+1,p,h=>by
  unfold zgx;split
  . exact h
  . rename_i q hq;exact yku n (yrw h hq)
theorem yxx (h:SI N s):SI N (you s):=by
 refine h.side zz4 fun i p hp=>?_
 rw [zy16] at hp;cases hq:s.paths[i]? with
 | none=>rw [hq] at hp;cases hp
 | some q =>
  rw [hq] at hp;cases hp;rw [<- h.zbd i q hq];unfold zgo;split
  . rfl
  . split<;>rfl
theorem xbr (h:SI N s):SI N (zlk s).1:=yxx (yku 61 (yif (zwc (ybl h).1)))
theorem zna {n:Int}:∀ {l:List zbp} {cum:Int},(∀ (i:Nat) x,l[i]?=some x->x.number=cum+1+i)->cum<=n->l.filter (fun x=>decide (x.number>n))=l.drop (n-cum).toNat
 | [],_,_,_=>by simp
 | x::l,cum,h,hn=>by
  have h0:=h 0 x rfl;have h1:∀ (i:Nat) y,l[i]?=some y->y.number=cum+1+1+i:=fun i y hy=>by
   have:=h (i+1) y (by rw [zy82];exact hy);push_cast at this;omega
  by_cases c:cum=n
  . subst c
    have:∀ y∈x::l,y.number>cum:=fun y hy=>by
     obtain ⟨i,hi⟩:=zy46 hy;have:=h i y hi;omega
    rw [zy94.2 fun y hy=>zy19 (this y hy)];simp
  . rw [zy47,zy0 (by simp at h0 ⊢;omega),zna h1 (by omega)]
    have:(n-cum).toNat=(n-(cum+1)).toNat+1:=by omega
    rw [this,List.drop_succ_cons]
theorem xbu {l:List zbp} {cum:Int} {c:Chunk} {np:Int} (h:∀ (i:Nat) x,l[i]?=some x->x.number=cum+1+i) (hk:¬ (zdd cum c.tag<cum\/zdd cum c.tag>cum+l.length)) :
 ∃ g:zbp->zbp,(∀ x,(g x).number=x.number/\(g x).path=x.path/\(g x).id=x.id/\(g x).chunk=x.chunk)/\(Sco.zha l cum c np).1=(l.drop (zdd cum c.tag-cum).toNat).map g:=by
 refine ⟨fun x=>Sco.age (Sco.zgv c (zdd cum c.tag) l) (Sco.zbi c (zdd cum c.tag) x),fun x=>?_,?_⟩
 . have e1:∀ (k:Int) y,(Sco.age k y).number=y.number/\(Sco.age k y).path=y.path/\(Sco.age k y).id=y.id/\(Sco.age k y).chunk=y.chunk:=fun k y=>by unfold Sco.age;(repeat' split)<;>exact ⟨rfl,rfl,rfl,rfl⟩
   have e2:∀ k y,(Sco.zbi c k y).number=y.number/\(Sco.zbi c k y).path=y.path/\(Sco.zbi c k y).id=y.id/\(Sco.zbi c k y).chunk=y.chunk:=fun k y=>by unfold Sco.zbi;split<;>exact ⟨rfl,rfl,rfl,rfl⟩
   obtain ⟨a1,a2,a3,a4⟩:=e1 (Sco.zgv c (zdd cum c.tag) l) (Sco.zbi c (zdd cum c.tag) x);obtain ⟨b1,b2,b3,b4⟩:=e2 (zdd cum c.tag) x;exact ⟨a1.trans b1,a2.trans b2,a3.trans b3,a4.trans b4⟩
 . rw [Sco.zha,zy0 hk]
   dsimp only;rw [Sco.left,zna h (by omega),zy95];rfl
theorem yca (h:SI N s) {c:Chunk} (hk:¬ (zdd s.cum c.tag<s.cum\/zdd s.cum c.tag>s.cum+s.out.length)):SI N (zhd s c (Sco.zha s.out s.cum c s.paths.length)):=by
 obtain ⟨g,hg,e⟩:=xbu (np:=s.paths.length) h.nums hk;have e2:(Sco.zha s.out s.cum c s.paths.length).2.1=zdd s.cum c.tag:=by rw [Sco.zha,zy0 hk]
 have hl:(zhd s c (Sco.zha s.out s.cum c s.paths.length)).paths.length=s.paths.length:=by
  show (List.mapIdx _ (List.mapIdx _ _)).length=_;simp
 have ho:(zhd s c (Sco.zha s.out s.cum c s.paths.length)).out=(s.out.drop (zdd s.cum c.tag-s.cum).toNat).map g:=e;have hc:(zhd s c (Sco.zha s.out s.cum c s.paths.length)).cum=zdd s.cum c.tag:=e2;have hn:=h.next;have hcu:=h.cum;refine ⟨h.cfg,fun i x hx=>?_,?_,?_,h.owes,by rw [hl];exact h.npaths,h.nhad,h.nmids,h.waits,h.queue,fun x hx=>?_,fun i p hp=>?_,h.many,h.few⟩
 case refine_5=>have:=zwa (s:={s with out:=(Sco.zha s.out s.cum c s.paths.length).1,cum:=(Sco.zha s.out s.cum c s.paths.length).2.1,room:=c.room,paths:=ziz s.paths s.config.part (decide ((Sco.zha s.out s.cum c s.paths.length).2.1>s.cum)) (Sco.zha s.out s.cum c s.paths.length).2.2.1}) hp;exact this
 . rw [ho,zy16,zy48] at hx
   cases hy:s.out[(zdd s.cum c.tag-s.cum).toNat+i]? with
   | none=>rw [hy] at hx;cases hx
   | some y =>
    rw [hy] at hx;cases hx;rw [(hg y).1,h.nums _ y hy,hc];push_cast;omega
 . rw [ho,hc,zy3,zy60]
   show s.next=_;omega
 . rw [hc];show s.config.first-1<=_;omega
 . rw [ho] at hx
   obtain ⟨y,hy,rfl⟩:=zy18.1 hx;have q:=h.out y (zy77 hy);obtain ⟨g1,g2,g3,g4⟩:=hg y;rw [hl];exact yy66
theorem ycb (h:SI N s) {part:Int} {L:List Int}:SI N (zhs part s L):=by
 unfold zhs;split
 . exact h
 . split
   . refine h.side (zjo _ _ _) fun i p hp=>?_
     rcases zuj hp with ⟨-,hp⟩ | ⟨rfl,q,hq,rfl⟩
     . exact h.zbd i p hp
     . rw [<- h.zbd _ q hq];rfl
   . exact h
theorem ycc (h:SI N s) {b:Bool}:SI N (zfy b s):=by
 unfold zfy;split
 . exact h.side rfl h.zbd
 . exact h
theorem ytd (h:SI N s):SI N (settle s):=by
 have hl:(settle s).fates.length=s.fates.length:=by show (List.mapIdx _ _).length=_;simp
 refine ⟨h.cfg,h.nums,h.next,h.cum,by rw [hl];exact h.owes,h.npaths,h.nhad,h.nmids,h.waits,fun m hm=>?_,fun x hx=>by rw [hl];exact h.out x hx,h.zbd,by rw [hl];exact h.many,h.few⟩;have hm:m∈s.queue:=hm;have q:=h.queue m hm;have q0:=q.id0;refine ⟨q.id0,by rw [hl];exact q.id1,?_,q.st0,q.st1,q.len1,q.len2,q.parts,q.sent,q.left⟩;show (s.fates.mapIdx fun id f=>settled s id f)[m.id.toNat]?=some 1;rw [zy76,q.fate];show some (settled s m.id.toNat 1)=some 1;rw [settled,zy0];rintro ⟨-,h2,-⟩;rw [zy125] at h2;exact h2 m hm (zy19 zz0)
theorem xap (h:SI N s) (c:Chunk):SI N (yfh s c):=by
 unfold yfh;split
 . exact h
 split
 . exact h
 . rename_i c1 c2
   rw [zny];exact ytd (ycc (ycb (yca h c2)))
theorem yqe (i j:Nat):∀ l:List zbp,Sco.fl j (l.map (Sco.late i))=if i=j then 0 else Sco.fl j l
 | []=>by simp [Sco.fl]
 | x::l=>by
  rw [zy21,zpn,yqe i j l,zpn (j:Int) x l,Sco.zvz,Sco.zvz];unfold Sco.late;by_cases c:x.state=1/\x.path=i
  . rw [zy1 c,zy0 (by rintro ⟨h,-⟩;cases h)]
    by_cases e:i=j
    . rw [zy1 e,zy1 e]
    . rw [zy0 e,zy0 e,zy0 (by rintro ⟨-,h⟩;have:=c.2;omega)]
  . rw [zy0 c]
    by_cases e:i=j
    . subst e;rw [zy1 rfl,zy1 rfl,zy0 c]
    . rw [zy0 e,zy0 e]
theorem ywi (h:SI N s) (part:Int) (i:Nat):SI N (zib part s i):=by
 unfold zib;split
 . exact h
 rename_i p hp;split
 . exact h
 have hil:=(zy10.1 hp).1;have h2:SI N {s with out:=s.out.map (Sco.late i),paths:=s.paths.set i (Paths.late p part)}:=by
  have e:∀ x,(Sco.late i x).number=x.number/\(Sco.late i x).path=x.path/\(Sco.late i x).id=x.id/\(Sco.late i x).chunk=x.chunk:=fun x=>by unfold Sco.late;split<;>exact ⟨rfl,rfl,rfl,rfl⟩
  refine ⟨h.cfg,fun j y hy=>?_,?_,h.cum,h.owes,?_,h.nhad,h.nmids,h.waits,h.queue,fun y hy=>?_,fun j q hq=>?_,h.many,h.few⟩
  . have hy:(s.out.map (Sco.late i))[j]?=some y:=hy
    rw [zy16] at hy;cases hz:s.out[j]? with
    | none=>rw [hz] at hy;cases hy
    | some z=>rw [hz] at hy;cases hy;rw [(e z).1];exact h.nums j z hz
  . show s.next=s.cum+1+((s.out.map (Sco.late i)).length:Int)
    rw [zy3];exact h.next
  . show ((s.paths.set i _).length:Int)=_
    rw [zy26];exact h.npaths
  . have hy:y∈s.out.map (Sco.late i):=hy
    obtain ⟨z,hz,rfl⟩:=zy18.1 hy;have q:=h.out z hz;obtain ⟨g1,g2,g3,g4⟩:=e z;show XI (s.paths.set i _).length _ _;rw [zy26];exact yy66
  . have hq:(s.paths.set i (Paths.late p part))[j]?=some q:=hq
    show q.zbd=(Sco.fl j (s.out.map (Sco.late i)):Nat);rw [yqe];by_cases e:i=j
    . subst e
      rw [zy20 hil] at hq;cases hq;rw [zy1 rfl];rfl
    . rw [zy49 e] at hq
      rw [zy0 e];exact h.zbd j q hq
 dsimp only;split
 . exact h2.side rfl h2.zbd
 . exact h2
theorem ykj (part:Int):∀ (L:List Nat) {s:zab},SI N s->SI N (L.foldl (zib part) s)
 | [],_,h=>h
 | i::L,_,h=>ykj part L (ywi h part i)
theorem yah (h:SI N s):SI N (tick s):=ykj _ _ (h.side rfl h.zbd)
end
end Snd
namespace Snd
open Ser
def zxm (L:List Message) (k:Nat):Prop:=∀ m,L[k]?=some m->m.life≠0\/m.tries≠0
structure KI (L:List Message) (s:zab):Prop where
 len:s.fates.length=L.length
 queue:∀ m∈s.queue,L[m.id.toNat]?=some m.message
 out:∀ x∈s.out,(x.life>0\/x.tries>0)->zxm L x.id.toNat
 gone:∀ k:Nat,s.fates[k]?=some 3->zxm L k
theorem zvy {L:List Message} (id:Int):∀ (q:List zag) (s:zab),(∀ x∈s.out,(x.life>0\/x.tries>0)->zxm L x.id.toNat)->∀ x∈(q.foldl (zef id) s).out,(x.life>0\/x.tries>0)->zxm L x.id.toNat
 | [],s,h,x,hx=>h x hx
 | m::q,s,h,x,hx=>by
  refine zvy id q (zef id s m) (fun y hy=>?_) x hx;unfold zef at hy;split at hy
  . rcases zy11.1 hy with hy | hy
    . exact h y hy
    . rw [zy9] at hy;subst hy
      intro hh;rcases hh with hh | hh<;>exact absurd hh (Int.lt_irrefl 0)
  . exact h y hy
section
variable {L:List Message} {s:zab}
theorem yqm (h:KI L s) {id:Nat} (hid:zxm L id):KI L (zev s id):=by
 refine ⟨by rw [zfe,zy26];exact h.len,fun m hm=>?_,fun x hx=>?_,fun k hk=>?_⟩
 . rw [zjf] at hm;exact h.queue m (zy40.1 hm).1
 . rw [zry] at hx
   obtain ⟨y,hy,rfl⟩:=zy18.1 hx;have:=zvy id s.queue {s with fates:=s.fates.set id 3} h.out y hy;unfold Sco.zhb;split<;>exact this
 . rw [zfe] at hk
   by_cases e:id=k
   . subst e;exact hid
   . rw [zy49 e] at hk;exact h.gone k hk
theorem xaa (h:KI L s) {m:zag} (hm:L[m.id.toNat]?=some m.message) (h0:0<=m.id):KI L (zju s m):=by
 unfold zju;split
 . rename_i c
   obtain ⟨k,hk⟩:∃ k:Nat,m.id=k:=⟨m.id.toNat,by omega⟩
   rw [hk] at hm ⊢;refine yqm h fun y hy=>?_
   rw [zy31,hy] at hm;cases hm;unfold old at c;simp only [zy12,zy34] at c
   left;omega
 . exact h
theorem xad (h:KI L s) {x:zbp} (hx:(x.life>0\/x.tries>0)->zxm L x.id.toNat) (h0:0<=x.id):KI L (zhk s x):=by
 unfold zhk;split
 . rename_i c
   obtain ⟨k,hk⟩:∃ k:Nat,x.id=k:=⟨x.id.toNat,by omega⟩
   rw [hk] at hx ⊢;refine yqm h (hx ?_);unfold yyg old at c;simp only [zy12,zy75,zy34] at c;rcases c.2.2 with d | d
   . exact .inl d.1
   . exact .inr d.2.1
 . exact h
theorem yja:∀ (q:List zag) {s:zab},KI L s->(∀ m∈q,L[m.id.toNat]?=some m.message/\0<=m.id)->KI L (q.foldl zju s)
 | [],_,h,_=>h
 | m::q,s,h,hq=>yja q (xaa h (hq m zz4).1 (hq m zz4).2) fun x hx=>hq x zz29
theorem yjd:∀ (q:List zbp) {s:zab},KI L s->(∀ x∈q,((x.life>0\/x.tries>0)->zxm L x.id.toNat)/\0<=x.id)->KI L (q.foldl zhk s)
 | [],_,h,_=>h
 | m::q,s,h,hq=>yjd q (xad h (hq m zz4).1 (hq m zz4).2) fun x hx=>hq x zz29
theorem ybk {N:Nat} (h:KI L s) (hs:SI N s):KI L (expire s):=by
 have h1:=yja s.queue h fun m hm=>⟨h.queue m hm,(hs.queue m hm).id0⟩
 obtain ⟨h2,-⟩:=zlx s.queue s hs fun m hm=>⟨(hs.queue m hm).id0,(hs.queue m hm).id1⟩
 exact yjd _ h1 fun x hx=>⟨h1.out x hx,(h2.out x hx).id0⟩
theorem KI.side {t:zab} (h:KI L s) (h1:t.fates=s.fates) (h2:∀ m∈t.queue,∃ y∈s.queue,y.id=m.id/\y.message=m.message) (h3:∀ x∈t.out,∃ y∈s.out,y.id=x.id/\y.life=x.life/\y.tries=x.tries):KI L t:=by
 refine ⟨by rw [h1];exact h.len,fun m hm=>?_,fun x hx=>?_,by rw [h1];exact h.gone⟩
 . obtain ⟨y,hy,e1,e2⟩:=h2 m hm;rw [<- e1,<- e2];exact h.queue y hy
 . obtain ⟨y,hy,e1,e2,e3⟩:=h3 x hx;rw [<- e1,<- e2,<- e3];exact h.out y hy
theorem zwb {o:List (List Chunk)} (h:KI L s):KI L (forward ⟨s,o⟩).s:=by
 unfold forward;split
 . exact h
 . exact h.side rfl (fun m hm=>⟨m,hm,rfl,rfl⟩) fun x hx=>⟨x,hx,rfl,rfl,rfl⟩
theorem yyl {p:zgn} (h:KI L p.s) (i path:Nat):KI L (fly p i path).s:=by
 unfold fly;split
 . exact h
 . rename_i x hx
   refine h.side rfl (fun m hm=>⟨m,hm,rfl,rfl⟩) fun y hy=>?_
   rcases zy44 hy with hy | rfl
   . exact ⟨y,hy,rfl,rfl,rfl⟩
   . exact ⟨x,zy4 hx,rfl,rfl,rfl⟩
theorem zsm {path:Nat}:∀ (l:List Nat) {p:zgn},KI L p.s->KI L (l.foldl (zdf path) p).s
 | [],_,h=>h
 | i::l,p,h=>by
  refine zsm l ?_;unfold zdf;split
  . exact h
  . split
    . exact yyl h _ _
    . exact h
theorem xdh (h:KI L s) {k:Nat} {m:zag} (hm:s.queue[k]?=some m):KI L (yuq s k m):=by
 have hmq:=zy4 hm;refine ⟨h.len,fun y hy=>?_,fun x hx=>?_,h.gone⟩
 . have hy:y∈(if decide (m.sent+many s m=m.message.data.length) then s.queue.eraseIdx k else s.queue.set k {m with mid:=zci s m,sent:=m.sent+many s m,parts:=W (m.parts+1)}):=hy
   split at hy
   . exact h.queue y (zy65 hy)
   . rcases zy44 hy with hy | rfl
     . exact h.queue y hy
     . exact h.queue m hmq
 . have hx:x∈s.out++[_]:=hx
   rcases zy11.1 hx with hx | hx
   . exact h.out x hx
   . rw [zy9] at hx;subst hx
     intro hh y hy;rw [show L[m.id.toNat]?=some m.message from h.queue m hmq] at hy;cases hy;have hh:m.message.life>0\/m.message.tries>0:=hh;omega
theorem yrv {p q:zgn} (h:KI L p.s) (hq:next p=some q):KI L q.s:=by
 obtain ⟨s,o⟩:=p;unfold next at hq;dsimp only at hq h;split at hq
 . cases hq
 cases hm:s.queue[(zeq s).toNat]? with
 | none=>rw [hm] at hq;cases hq
 | some m =>
  rw [hm] at hq;dsimp only at hq;split at hq
  . cases hq
  . cases hq
    rw [zoj];exact yyl (p:=⟨yuq s (zeq s).toNat m,o⟩) (xdh h hm) _ _
theorem yks:∀ (n:Nat) {p:zgn},KI L p.s->KI L (zgx n p).s
 | 0,_,h=>h
 | n+1,p,h=>by
  unfold zgx;split
  . exact h
  . rename_i q hq;exact yks n (yrv h hq)
theorem xbq {N:Nat} (h:KI L s) (hs:SI N s):KI L (zlk s).1:=by
 have h1:KI L (zkt s).s:=yks 61 (zsm _ (zwb (ybk h hs)));exact h1.side rfl (fun m hm=>⟨m,hm,rfl,rfl⟩) fun x hx=>⟨x,hx,rfl,rfl,rfl⟩
theorem xbx {N:Nat} (h:KI L s) (hs:SI N s) (m:Message):KI (L++[m]) (zjm s m):=by
 have hl:=h.len;have up:∀ {k:Nat},k<L.length->zxm L k->zxm (L++[m]) k:=fun hk hh y hy=>by
  rw [zy22 hk] at hy;exact hh y hy
 refine ⟨by show (s.fates++[1]).length=_;simp;omega,fun q hq=>?_,fun x hx=>?_,fun k hk=>?_⟩
 . have hq:q∈s.queue++[_]:=hq
   rcases zy11.1 hq with hq | hq
   . have:=h.queue q hq
     rw [zy22 (zy10.1 this).1];exact this
   . rw [zy9] at hq;subst hq
     show (L++[m])[((s.fates.length:Nat):Int).toNat]?=some m;rw [zy31,hl,zy35 (zy25 _),zy90];rfl
 . intro hh y hy
   have hx:x∈s.out:=hx;have h1:=h.out x hx hh;have h2:=(hs.out x hx).id1;have h3:=(hs.out x hx).id0;exact up zz0 h1 y hy
 . have hk:(s.fates++[1])[k]?=some 3:=hk
   rcases zy62 k s.fates.length with hk2 | hk2
   . rw [zy22 hk2] at hk;exact up zz0 (h.gone k hk)
   . rw [zy35 hk2] at hk
     rcases zy109 (k-s.fates.length) with e | e
     . rw [e] at hk;cases hk
     . rw [zy42 (by simp;omega)] at hk;cases hk
theorem ywh (h:KI L s) (part:Int) (i:Nat):KI L (zib part s i):=by
 unfold zib;split
 . exact h
 split
 . exact h
 have h2:∀ f,KI L {s with out:=s.out.map (Sco.late i),paths:=f}:=fun f=>h.side rfl (fun m hm=>⟨m,hm,rfl,rfl⟩) fun x hx=>by
  obtain ⟨y,hy,rfl⟩:=zy18.1 (show x∈s.out.map (Sco.late i) from hx);exact ⟨y,hy,by unfold Sco.late;split<;>rfl,by unfold Sco.late;split<;>rfl,by unfold Sco.late;split<;>rfl⟩
 dsimp only;split
 . exact (h2 []).side rfl (fun m hm=>⟨m,hm,rfl,rfl⟩) fun x hx=>⟨x,hx,rfl,rfl,rfl⟩
 . exact h2 _
theorem yki (part:Int):∀ (l:List Nat) {s:zab},KI L s->KI L (l.foldl (zib part) s)
 | [],_,h=>h
 | i::l,_,h=>yki part l (ywh h part i)
theorem xce (h:KI L s):KI L (tick s):=yki _ _ (h.side rfl (fun m hm=>⟨m,hm,rfl,rfl⟩) fun x hx=>⟨x,hx,rfl,rfl,rfl⟩)
end
theorem yiq (s:zab) (id:Nat):(zev s id).config=s.config:=(zhq s id).1.config
theorem ybi:∀ (q:List zag) (s:zab),(∀ m∈q,0<=m.id)->(q.foldl zju s).config=s.config
 | [],_,_=>rfl
 | m::q,s,h=>by
  rw [zy56,ybi q _ fun x hx=>h x (by simp [hx])];unfold zju;split
  . have:=h m zz4
    rw [show m.id=((m.id.toNat:Nat):Int) by omega];exact yiq s _
  . rfl
theorem ybj:∀ (q:List zbp) (s:zab),(∀ m∈q,0<=m.id)->(q.foldl zhk s).config=s.config
 | [],_,_=>rfl
 | m::q,s,h=>by
  rw [zy56,ybj q _ fun x hx=>h x (by simp [hx])];unfold zhk;split
  . have:=h m zz4
    rw [show m.id=((m.id.toNat:Nat):Int) by omega];exact yiq s _
  . rfl
theorem ymp {N:Nat} {s:zab} (h:SI N s):(expire s).config=s.config:=by
 obtain ⟨h2,-⟩:=zlx s.queue s h fun m hm=>⟨(h.queue m hm).id0,(h.queue m hm).id1⟩
 unfold expire;rw [ybj _ _ fun x hx=>(h2.out x hx).id0,ybi _ _ fun m hm=>(h.queue m hm).id0]
theorem yqf (p:zgn) (i c:Nat):(fly p i c).s.config=p.s.config:=by unfold fly;split<;>rfl
theorem zvp {c:Nat}:∀ (l:List Nat) (p:zgn),(l.foldl (zdf c) p).s.config=p.s.config
 | [],_=>rfl
 | i::l,p=>by
  rw [zy56,zvp l];unfold zdf;split
  . rfl
  . split
    . exact yqf _ _ _
    . rfl
theorem ywl {p q:zgn} (h:next p=some q):q.s.config=p.s.config:=by
 obtain ⟨s,o⟩:=p;unfold next at h;dsimp only at h;split at h
 . cases h
 cases hm:s.queue[(zeq s).toNat]? with
 | none=>rw [hm] at h;cases h
 | some m =>
  rw [hm] at h;dsimp only at h;split at h
  . cases h
  . cases h
    rw [zoj,yqf];rfl
theorem ydc:∀ (n:Nat) (p:zgn),(zgx n p).s.config=p.s.config
 | 0,_=>rfl
 | n+1,p=>by
  unfold zgx;split
  . rfl
  . rename_i q hq;rw [ydc n q,ywl hq]
theorem ygb (p:zgn):(forward p).s.config=p.s.config:=by unfold forward;split<;>rfl
theorem yxe {N:Nat} {s:zab} (h:SI N s):(zlk s).1.config=s.config:=by
 show (zkt s).s.config=_;unfold zkt;rw [ydc];unfold again;rw [zvp,ygb];exact ymp h
theorem yex {l:List Step} (h:zia (l.map Step.row)<=1048576):(∀ x∈l,x.message.data.length<=1048576)/\l.length<=1048576:=by
 have h1:∀ x:Step,x.message.data.length+1<=zfx x.row:=fun x=>by
  have h1:=ykk (f:=zdg) (fun x=>by simp [zdg,zfx,PV.bulk]) x.message.data;simp only [Step.row,zfx,PV.bulk];omega
 refine ⟨fun x hx=>?_,?_⟩
 . have h2:=ykp (f:=Step.row) hx
   have:=h1 x;omega
 . have:=ykk (f:=Step.row) (fun x=>by have:=h1 x;omega) l
   omega
end Snd
namespace Jn
open Srt
def zkr (n:Nat):Nat->List zaw->Option (List UInt8)
 | _,[]=>some []
 | i,p::r=>if p.chunk.part=(i:Int)/\p.chunk.last=decide (i+1=n) then (zkr n (i+1) r).map (p.chunk.data++·) else none
def join (l:List zaw):Option (List UInt8):=if l=[] then none else zkr l.length 0 (srt ck l)
def yrn (l:List zaw) (k:Nat):Nat:=l.countP fun p=>decide (p.chunk.part<(k:Int))
def xdy (l:List zaw) (k:Nat):Nat:=l.countP fun p=>decide ((k:Int)<=p.chunk.part)
theorem ywj (l:List zaw) (k:Nat):yrn l k+xdy l k=l.length:=by
 induction l with
 | nil=>rfl
 | cons p l ih =>
  simp only [yrn,xdy,zy153,zy6] at *
  by_cases h:p.chunk.part<(k:Int)
  . have h2:¬ (k:Int)<=p.chunk.part:=by omega
    simp [h,h2];omega
  . have h2:(k:Int)<=p.chunk.part:=by omega
    simp [h,h2];omega
theorem yko {l:List zaw} {k:Nat} (h:∃ p∈l,p.chunk.part=(k:Int)):yrn l k+1<=yrn l (k+1):=by
 induction l with
 | nil=>simp at h
 | cons p l ih =>
  have mono:∀ l:List zaw,l.countP (fun p=>decide (p.chunk.part<(k:Int)))<=l.countP (fun p=>decide (p.chunk.part<((k+1:Nat):Int))):=fun l=>List.countP_mono_left fun x _ hx=>by simp at hx ⊢;omega
  simp only [yrn,zy153] at ih ⊢;by_cases he:p.chunk.part=(k:Int)
  . have:=mono l
    have h2:¬ p.chunk.part<(k:Int):=by omega
    have h3:p.chunk.part<((k+1:Nat):Int):=by omega
    rw [zy0 (by simpa using h2),zy1 (zy19 h3)];omega
  . have:∃ p∈l,p.chunk.part=(k:Int):=by
     obtain ⟨q,hq,e⟩:=h;rcases zy14.1 hq with rfl | hq
     . exact absurd e he
     . exact ⟨q,hq,e⟩
    have:=ih this;by_cases h2:p.chunk.part<(k:Int)
    . have h3:p.chunk.part<((k+1:Nat):Int):=by omega
      rw [zy1 (zy19 h2),zy1 (zy19 h3)];omega
    . have h3:¬ p.chunk.part<((k+1:Nat):Int):=by omega
      rw [zy0 (by simpa using h2),zy0 (fun h=>h3 (zy36 h))];omega
theorem yys {l:List zaw} {n:Nat} (h:∀ i,i<n->∃ p∈l,p.chunk.part=(i:Int)):∀ k,k<=n->k<=yrn l k
 | 0,_=>zy96 _
 | k+1,hk=>by have:=yys h k zz0;have:=yko (h k zz0);omega
theorem yyt {l:List zaw} {n:Nat} (hn:l.length=n) (h:∀ i,i<n->∃ p∈l,p.chunk.part=(i:Int)):∀ j,j<=n->yrn l (n-j)<=n-j
 | 0,_=>by have:=ywj l n;simp only [Nat.sub_zero];omega
 | j+1,hj=>by
  have h1:=yyt hn h j zz0;have h2:=yko (h (n-(j+1)) zz0);rw [show n-(j+1)+1=n-j by omega] at h2;omega
theorem zzs:∀ {S:List zaw} (_:Sd ck S) (k:Nat) (i:Nat) (hi:i<S.length),(S[i].chunk.part<(k:Int)↔i<yrn S k)
 | x::S,h,k,0,hi=>by
  simp only [yrn,zy153,List.getElem_cons_zero];by_cases hx:x.chunk.part<(k:Int)
  . simp [hx]
  . have:S.countP (fun p=>decide (p.chunk.part<(k:Int)))=0:=List.countP_eq_zero.2 fun y hy=>by have:=h.1 y hy;simp;simp only [ck] at this;omega
    simp [hx,this]
 | x::S,h,k,i+1,hi=>by
  have ih:=zzs h.2 k i (by simpa using hi);simp only [yrn,zy153,zy151] at *
  by_cases hx:x.chunk.part<(k:Int)
  . simp [hx];exact ih
  . have:S.countP (fun p=>decide (p.chunk.part<(k:Int)))=0:=List.countP_eq_zero.2 fun y hy=>by have:=h.1 y hy;simp;simp only [ck] at this;omega
    rw [this] at ih ⊢;simp [hx];omega
theorem yfk {S:List zaw} (hs:Sd ck S) (h:∀ i,i<S.length->∃ p∈S,p.chunk.part=(i:Int)) (i:Nat) (hi:i<S.length):S[i].chunk.part=(i:Int):=by
 have e:∀ k,k<=S.length->yrn S k=k:=fun k hk=>by
  have h1:=yys h k hk;have h2:=yyt rfl h (S.length-k) zz0;rw [show S.length-(S.length-k)=k by omega] at h2;omega
 have h1:=zzs hs i i hi;have h2:=zzs hs (i+1) i hi;rw [e i (by omega)] at h1;rw [e (i+1) (by omega)] at h2;omega
def tot (l:List zaw):Nat:=(l.map fun p=>p.chunk.data.length).sum
theorem ylw {l l':List zaw} (h:l.Perm l'):tot l=tot l':=(h.map _).sum_nat
theorem zeb (p:zaw) (l:List zaw):tot (p::l)=p.chunk.data.length+tot l:=rfl
theorem znn (a b:List zaw):tot (a++b)=tot a+tot b:=by simp [tot]
theorem xch {l:List zaw} {p:zaw} (h:p∈l):p.chunk.data.length<=tot l:=by
 induction l with
 | nil=>cases h
 | cons q l ih =>
  rw [zeb];rcases zy14.1 h with rfl | h
  . omega
  . have:=ih h;omega
def cat (l:List zaw):List UInt8:=(l.map fun p=>p.chunk.data).flatten
theorem yim (l:List zaw) (p:zaw):cat (l++[p])=cat l++p.chunk.data:=by simp [cat]
theorem yzr (l:List zaw):(cat l).length=tot l:=by induction l with
 | nil=>rfl
 | cons p l ih=>rw [zeb,<- ih];simp [cat]
abbrev pieces (l:List zaw):HV:=.p (.sl 12 (l.map zaw.row))
theorem zxd (n:Int):zao Tryz.prog 214 [i64 n] zae (zbo false) zae:=by
 refine zas mixed Tryz.func214 zz5 ?_;(conv=>whnf);simp
theorem yei (a b:Int):zao Tryz.prog 209 [i64 a,i64 b] zae (i64 (if a<b then -1 else if a>b then 1 else 0)) zae:=by
 refine zas mixed Tryz.func209 zz5 ?_;(conv=>whnf)
 (refine cL ?_;refine dL (zxd a) ?_)
 (refine cL ?_;refine dL (zxd b) ?_)
 by_cases c:a<b
 . rw [zy1 c]
   ((refine xdx ?_;conv=>whnf);try refine sG ?_)
 rw [zy0 c];refine sN ?_;by_cases c2:a>b
 . rw [zy1 c2]
   ((refine xdx ?_;conv=>whnf);try refine sG ?_)
 rw [zy0 c2]
 ((refine xdw ?_;conv=>whnf);try refine sG ?_)
theorem zzx:yap 208:=fun a b=>by
 refine zas mixed Tryz.func208 zz5 ?_;(conv=>whnf)
 (refine cL ?_;refine dL (yei a.chunk.part b.chunk.part) ?_)
 rfl
theorem yui {x:HV} {a b:Bool} (h:a=b):HV.tup [x,zbo a]=HV.tup [x,zbo b]:=by rw [h]
theorem yay (l:List zaw) (hb:l.length<2 ^ 39):zao Tryz.prog 206 [.p (.sl 12 (l.map zaw.row))] zae (.own 0) (lk .free [(0,.live (.row 162 12 (l.map zaw.row)))]):=by
 refine zam mixed Tryz.func206 zz5 [] (fun _=>.inl rfl) ?_;(conv=>whnf);intro b hn;(conv=>whnf);refine zah (fun c=>?_) (fun c=>?_)
 . conv=>whnf
   exact yy14
 . conv=>whnf
   refine zaa (c:=(([]:List (List PV)).length+(l.map zaw.row).length)*136<=140737488355328) zz3 ?_;exact yy9
theorem ytp (l:List zaw) (hb:l.length<2 ^ 38) (ht:tot l<2 ^ 40) :
 zao Tryz.prog 200 [pieces l] zae (.tup [.own 0,zbo (join l).isSome]) (lk .free [(0,.live (.row 5 1 (((join l).getD []).map zdg)))]):=by
 refine zam mixed Tryz.func200 zz5 [] (fun _=>.inl rfl) ?_;(conv=>whnf)
 (refine zar [(0,9)] ?_;(conv=>whnf);refine dO (yay l zz0) ?_)
 (refine zac [] [(1000,9)] [] ?_;(conv=>whnf);refine dG (ytz zzx l zz0) ?_)
 have hl:=zgm (key:=ck) l;have ht2:tot (srt ck l)<2 ^ 40:=by rw [ylw zkl];exact ht
 obtain ⟨S,hS⟩:∃ S,S=srt ck l:=⟨_,rfl⟩
 have hj:join l=if l=[] then none else zkr S.length 0 S:=by rw [join,<- hS,<- hl,hS]
 rw [<- hS] at hl ht2;refine ⟨{x:List zaw×List zaw // S=x.1++x.2/\zkr S.length 0 S=(zkr S.length x.1.length x.2).map (cat x.1++·)},fun | ⟨(A,B),_⟩=>hs 45 [(4,.own 900),(5,.own 901),(12,.own 900),(13,i64 S.length),(14,i64 A.length)] [(900,.live (.row 162 12 (S.map zaw.row))),(901,.live (.row 5 1 ((cat A).map zdg)))],fun x=>x.1.2.length,⟨([],S),rfl,by simp [cat]⟩,?_,?_⟩
 . exact (zcl [(900,some 9),(901,none)] (by repeat' (first | exact z0 | refine z1 ?_ | refine ⟨?_,?_⟩ | ((exact zbe (by rw [zy3,hS]))) | ((exact zaq (by rw [hS]))) | exact z2)))
 rintro ⟨⟨A,B⟩,h,hr⟩;dsimp only at h hr;have hAB:S.length=A.length+B.length:=by rw [h];simp
 have htA:tot S=tot A+tot B:=by rw [h,znn]
 (conv=>whnf);cases B with
 | nil =>
  rw [zy13] at hAB;rw [zkr] at hr;have hcat:zkr S.length 0 S=some (cat A):=by rw [hr];simp
  have h0:tot []=0:=rfl;refine sN ?_;by_cases hln:l=[]
  . subst hln
    have hl0:S.length=0:=hl;have:A=[]:=zy17 zz0;subst this;refine zal [(0,some 901)] rfl rfl trivial rfl (yui ?_) ⟨⟨rfl,.inl ⟨901,rfl,rfl⟩⟩,trivial⟩;rw [zy3,hl0];rfl
  . have:=zy27.2 hln
    have hjv:join l=some (cat A):=by rw [hj,zy0 hln,hcat]
    rw [hjv];refine zal [(0,some 901)] rfl rfl trivial rfl (yui ?_) ⟨⟨rfl,.inl ⟨901,rfl,rfl⟩⟩,trivial⟩;simp;omega
 | cons p B =>
  rw [zy6] at hAB;rw [zeb] at htA;rw [zkr] at hr;have hca:=yzr A;have hln:l≠[]:=fun h=>by subst h;have hl0:S.length=0:=hl;omega
  rw [zy0 hln] at hj;refine sT ?_;refine sO ?_;refine zak h zz4 (zw ?_);have e:((A.length:Int)==((S.map zaw.row).length:Int)-1)=decide (A.length+1=S.length):=by
   rw [zy3,zy136];simp;omega
  by_cases c1:p.chunk.part=(A.length:Int)
  . refine zaf (by simp [c1]) (zw ?_)
    refine sF ?_;by_cases c2:p.chunk.last=decide (A.length+1=S.length)
    . rw [zy1 ⟨c1,c2⟩] at hr
      refine zaf (by rw [e,c2];simp) (zw ?_)
      try refine sG ?_
      refine zaa (c:=(((cat A).map zdg).length+(p.chunk.data.map zdg).length)*1<=140737488355328) zz3 (zw ?_)
      try refine sG ?_
      refine sF ?_;refine ⟨⟨(A++[p],B),by rw [h];simp,by dsimp only;rw [hr,Option.map_map,zy8,zy50];congr 1;funext x;simp [yim]⟩,(zcl [(900,some 900),(901,some 39)] (by repeat' (first | exact z0 | refine z1 ?_ | refine ⟨?_,?_⟩ | ((exact zaq (by rw [yim];simp))) | exact z2))),by simp⟩
    . rw [zy0 fun h=>c2 h.2] at hr
      have hjv:join l=none:=by rw [hj,hr];rfl
      refine zai (by rw [e];cases hp:p.chunk.last<;>cases hd:decide (A.length+1=S.length)<;>simp_all) (zw ?_);exact yy91
  . rw [zy0 fun h=>c1 h.1] at hr
    have hjv:join l=none:=by rw [hj,hr];rfl
    refine zai zz50 ?_;conv=>whnf
    exact yy91
end Jn
end Go.HL
namespace Go.HL
namespace Ser
def zfa:List Span->Prop
 | []=>True
 | s::r=>s.lo<=s.hi/\-9223372036854775808<=s.lo/\s.hi<=9223372036854775807/\(∀ t∈r,s.hi+1<t.lo)/\zfa r
theorem zkd:∀ {a b:List Span},zfa (a++b)↔zfa a/\zfa b/\∀ s∈a,∀ t∈b,s.hi+1<t.lo
 | [],b=>by simp [zfa]
 | s::a,b=>by
  simp only [zy39,zfa,zkd (a:=a) (b:=b),zy11,zy14]
  constructor
  . rintro ⟨h1,h2,h3,h4,h5,h6,h7⟩
    exact ⟨⟨h1,h2,h3,fun t ht=>h4 t (.inl ht),h5⟩,h6,fun x hx t ht=>by rcases hx with rfl | hx;exact h4 t (.inr ht);exact h7 x hx t ht⟩
  . rintro ⟨⟨h1,h2,h3,h4,h5⟩,h6,h7⟩
    exact ⟨h1,h2,h3,fun t ht=>by rcases ht with ht | ht;exact h4 t ht;exact h7 s (.inl rfl) t ht,h5,h6,fun x hx t ht=>h7 x (.inr hx) t ht⟩
theorem zik:∀ {l:List Span},zfa l->∀ s∈l,s.lo<=s.hi/\-9223372036854775808<=s.lo/\s.hi<=9223372036854775807
 | s::r,h,t,ht=>by
  rcases zy14.1 ht with rfl | ht
  . exact ⟨h.1,h.2.1,h.2.2.1⟩
  . exact zik h.2.2.2.2 t ht
theorem zlc {l:List Span} {n:Int}:has l n=true↔∃ s∈l,s.lo<=n/\n<=s.hi:=by
 simp [has,zy98]
theorem yqo {l:List Span} {n:Int}:has l n=false↔∀ s∈l,¬ (s.lo<=n/\n<=s.hi):=by
 rw [<- zy152,zlc];simp
theorem zyn (a b:List Span) (n:Int):has (a++b) n=(has a n||has b n):=by simp [has]
theorem zjx (s:Span) (b:List Span) (n:Int):has (s::b) n=((decide (s.lo<=n)&&decide (n<=s.hi))||has b n):=by simp [has]
def ynf (n:Int) (s:Span):Bool:=decide (s.hi<n)
def below (l:List Span) (n:Int):List Span:=l.takeWhile (ynf n)
def zec (l:List Span) (n:Int):List Span:=l.dropWhile (ynf n)
def zvv (n:Int) (a:List Span):List Span×Int:=match a.getLast? with
 | some s=>if s.hi=n-1 then (a.dropLast,s.lo) else (a,n)
 | none=>(a,n)
def zrv (n:Int):List Span->Int×List Span
 | t::r=>if t.lo=n+1 then (t.hi,r) else (n,t::r)
 | []=>(n,[])
def add (l:List Span) (n:Int):List Span :=
 if has l n then l else (zvv n (below l n)).1++⟨(zvv n (below l n)).2,(zrv n (zec l n)).1⟩::(zrv n (zec l n)).2
theorem split (l:List Span) (n:Int):l=below l n++zec l n:=(List.takeWhile_append_dropWhile).symm
theorem zru {l:List Span} {n:Int}:∀ s∈below l n,s.hi<n:=fun s hs=>by
 have:=zy63.1 (List.all_takeWhile (p:=ynf n) (l:=l)) s hs
 simpa [ynf] using this
theorem yid {l:List Span} {n:Int} (h:zfa l) (hn:has l n=false):∀ s∈zec l n,n<s.lo:=by
 intro s hs;have hsp:=split l n;have hr:zfa (zec l n):=by rw [hsp] at h;exact (zkd.1 h).2.1
 have hno:∀ t∈zec l n,¬ (t.lo<=n/\n<=t.hi):=fun t ht=>yqo.1 hn t (by rw [hsp];exact zy158 _ ht)
 have hhd:∀ t r,zec l n=t::r->¬ t.hi<n:=by
  intro t r e hlt;have:=zy140 (ynf n) l;rw [show l.dropWhile (ynf n)=t::r from e] at this;simp [ynf] at this;omega
 cases ha:zec l n with
 | nil=>rw [ha] at hs;simp at hs
 | cons t r =>
  have h1:=hhd t r ha;have h2:=hno t (by rw [ha];simp);rw [ha] at hr hs;have h3:=hr.1;rcases zy14.1 hs with rfl | hs
  . omega
  . have:=hr.2.2.2.1 s hs;omega
theorem ypm {l:List Span} {n:Int} (h:zfa l):∀ (i:Nat) (hi:i<l.length),l[i].hi<n↔i<(below l n).length:=by
 intro i hi;have hsp:=split l n
 constructor
 . intro hlt
   apply Classical.byContradiction;intro hge;have hmem:l[i]∈zec l n:=by
    have e:l[i]?=(zec l n)[i-(below l n).length]?:=by
     conv=>lhs;rw [hsp]
     exact zy35 zz0
    rw [zy2 hi] at e;exact zy4 e.symm
   have hr:zfa (zec l n):=by rw [hsp] at h;exact (zkd.1 h).2.1
   cases ha:zec l n with
   | nil=>rw [ha] at hmem;simp at hmem
   | cons t r =>
    have h1:¬ t.hi<n:=by
     exact yy94
    rw [ha] at hr hmem;rcases zy14.1 hmem with e | hm
    . rw [e] at hlt;exact h1 hlt
    . have h4:=hr.2.2.2.1 _ hm
      have h5:=(zik hr.2.2.2.2 _ hm).1;have:=hr.1;omega
 . intro hlt
   have e:l[i]?=(below l n)[i]?:=by
    conv=>lhs;rw [hsp]
    exact zy22 hlt
   rw [zy2 hi] at e;exact zru _ (zy4 e.symm)
theorem yps {a:List Span} {n:Int} (h:zfa a) (hn:∀ s∈a,s.hi<n) :
 (zvv n a).2<=n/\(∀ s∈(zvv n a).1,s.hi+1<(zvv n a).2)/\zfa (zvv n a).1/\(-9223372036854775808<=n->-9223372036854775808<=(zvv n a).2)/\∀ m,(has (zvv n a).1 m||(decide ((zvv n a).2<=m)&&decide (m<n)))=has a m:=by
 rcases zy130 a with rfl | ⟨a',s,rfl⟩
 . simp [zvv,zfa,has]
   intro m hm;exact zy36 hm
 . rw [zy111] at h hn ⊢
   have hs:=hn s zz4;have hr:=zkd.1 h;have h3:∀ x∈a',x.hi+1<s.lo:=fun x hx=>hr.2.2 x hx s zz4
   have h4:=hr.2.1.1;simp only [zvv,List.getLast?_concat];split
   . rename_i he
     simp only [List.dropLast_concat];refine ⟨by omega,h3,hr.1,fun _=>hr.2.1.2.1,fun m=>?_⟩;rw [zyn,zjx];have:decide (m<n)=decide (m<=s.hi):=by rw [zy157];omega
     rw [this];simp [has]
   . rename_i he
     refine ⟨zy91 _,fun x hx=>?_,h,fun h=>h,fun m=>?_⟩
     . rcases zy11.1 hx with hx | hx
       . have:=h3 x hx;dsimp only;omega
       . rw [zy9.1 hx];dsimp only;omega
     . have:(decide (n<=m)&&decide (m<n))=false:=by simp<;>omega
       dsimp only;rw [this,Bool.or_false]
theorem ypt {b:List Span} {n:Int} (h:zfa b) (hn:∀ s∈b,n<s.lo) :
 n<=(zrv n b).1/\(∀ s∈(zrv n b).2,(zrv n b).1+1<s.lo)/\zfa (zrv n b).2/\(n<=9223372036854775807->(zrv n b).1<=9223372036854775807)/\∀ m,(has (zrv n b).2 m||(decide (n<m)&&decide (m<=(zrv n b).1)))=has b m:=by
 cases b with
 | nil =>
  simp [zrv,zfa,has];intro m hm;exact zy30 zz0
 | cons t r =>
  have ht:=hn t zz4;simp only [zrv];split
  . rename_i he
    refine ⟨by have:=h.1;dsimp only;omega,h.2.2.2.1,h.2.2.2.2,fun _=>h.2.2.1,fun m=>?_⟩;rw [zjx,Bool.or_comm];congr 2;rw [zy157];omega
  . rename_i he
    refine ⟨zy91 _,fun x hx=>?_,h,fun h=>h,fun m=>?_⟩
    . rcases zy14.1 hx with rfl | hx
      . dsimp only;omega
      . have:=h.2.2.2.1 x hx;have:=h.1;dsimp only;omega
    . have:(decide (n<m)&&decide (m<=n))=false:=by simp
      dsimp only;rw [this,Bool.or_false]
theorem zxo {l:List Span} {n:Int} (h:zfa l) (h1:-9223372036854775808<=n) (h2:n<=9223372036854775807):zfa (add l n)/\∀ m,has (add l n) m=(has l m||decide (m=n)):=by
 unfold add;cases hn:has l n with
 | true =>
  refine ⟨h,fun m=>?_⟩;by_cases hm:m=n
  . subst hm;simp [hn]
  . simp [hm]
 | false =>
  simp only [zy70,if_false];have hsp:=split l n;have hab:=h;rw [hsp] at hab;obtain ⟨ra,rb,rab⟩:=zkd.1 hab;obtain ⟨a1,a2,a3,a4,a5⟩:=yps ra zru;obtain ⟨b1,b2,b3,b4,b5⟩:=ypt rb (yid h hn);have a4:=a4 h1;have b4:=b4 h2;have b6:∀ s∈(zrv n (zec l n)).2,n<s.lo:=fun s hs=>by have:=b2 s hs;omega
  refine ⟨zkd.2 ⟨a3,⟨by dsimp only;omega,a4,b4,b2,b3⟩,fun s hs t ht=>?_⟩,fun m=>?_⟩
  . rcases zy14.1 ht with rfl | ht
    . exact a2 s hs
    . have:=a2 s hs;have:=b6 t ht;omega
  . have e:has l m=(has (below l n) m||has (zec l n) m):=by rw [<- zyn,<- hsp]
    rw [zyn,zjx,e,<- a5 m,<- b5 m];generalize has (zvv n (below l n)).1 m=A;generalize has (zrv n (zec l n)).2 m=B;dsimp only;rcases Int.lt_trichotomy m n with hlt | rfl | hgt
    . have e1:decide (m<n)=true:=by simpa using hlt
      have e2:decide (n<m)=false:=by simp;omega
      have e3:decide (m=n)=false:=by simp;omega
      have e4:decide (m<=(zrv n (zec l n)).1)=true:=by simp;omega
      rw [e1,e2,e3,e4];simp [Bool.or_assoc,Bool.or_comm,Bool.or_left_comm]
    . have e4:decide (m<=(zrv m (zec l m)).1)=true:=by simp;omega
      have e5:decide ((zvv m (below l m)).2<=m)=true:=by simp;omega
      rw [e4,e5];simp
    . have e1:decide (m<n)=false:=by simp;omega
      have e2:decide (n<m)=true:=by simpa using hgt
      have e3:decide (m=n)=false:=by simp;omega
      have e4:decide ((zvv n (below l n)).2<=m)=true:=by simp;omega
      rw [e1,e2,e3,e4];simp [Bool.or_assoc,Bool.or_comm,Bool.or_left_comm]
end Ser
namespace Ser
def cmp (n:Int) (s:Span):Int:=if s.hi<n then -1 else if s.lo>n then 1 else 0
theorem zzx (n:Int) (s:Span):zao Tryz.prog 196 [s.hv,i64 n] zae (i64 (cmp n s)) zae:=by
 refine zas mixed Tryz.func196 zz5 ?_;(conv=>whnf);refine zah (fun c=>?_) (fun c=>?_)
 . have c:s.hi<n:=by simpa using c
   (conv=>whnf);rw [cmp,zy1 c]
 . have c:¬ s.hi<n:=by simpa using c
   (conv=>whnf);refine zah (fun c2=>?_) (fun c2=>?_)
   . have c2:s.lo>n:=by simpa using c2
     (conv=>whnf);rw [cmp,zy0 c,zy1 c2]
   . have c2:¬ s.lo>n:=by simpa using c2
     (conv=>whnf);rw [cmp,zy0 c,zy0 c2]
theorem xdf {n:Int} {s:Span}:cmp n s<0↔s.hi<n:=by
 unfold cmp;split
 . simp [*]
 . split<;>simp [*]
theorem found {l:List Span} {n:Int} (h:zfa l):zsu (cmp n) l (below l n).length=has l n:=by
 have hsp:=split l n;have e:l[(below l n).length]?=(zec l n)[0]?:=by
  conv=>lhs;arg 1;rw [hsp]
  rw [zy35 (zy25 _),zy90]
 have e2:has l n=has (zec l n) n:=by
  conv=>lhs;arg 1;rw [hsp]
  rw [zyn,yqo.2 fun s hs=>by have:=zru s hs;omega,Bool.false_or]
 rw [zsu,e,e2];cases ha:zec l n with
 | nil=>rfl
 | cons t r =>
  have hr:zfa (zec l n):=by rw [hsp] at h;exact (zkd.1 h).2.1
  rw [ha] at hr;have h1:¬ t.hi<n:=by
   exact yy94
  have h2:has r n=false:=yqo.2 fun s hs=>by have:=hr.2.2.2.1 s hs;omega
  rw [zjx,h2,Bool.or_false];show (cmp n t==0)=_;rw [cmp,zy0 h1];by_cases c:t.lo>n
  . rw [zy1 c,zy30 (by omega)];rfl
  . rw [zy0 c,zy19 (by omega),zy19 (by omega)];rfl
theorem zex (l:List Span) (hb:l.length<2 ^ 40):zao Tryz.prog 150 [.p (.sl 2 (l.map Span.row))] zae (.own 0) (lk .free [(0,.live (.row 199 2 (l.map Span.row)))]):=by
 refine zam mixed Tryz.func150 zz5 [] (fun _=>.inl rfl) ?_;(conv=>whnf);intro b hn;(conv=>whnf);refine zah (fun c=>?_) (fun c=>?_)
 . conv=>whnf
   exact yy14
 . conv=>whnf
   refine zaa (c:=(([]:List (List PV)).length+(l.map Span.row).length)*16<=140737488355328) zz3 ?_;exact yy9
theorem zgi {α:Type} (l:List α):l=[]\/∃ a x,l=a++[x]:=by
 rcases zy130 l with h | ⟨a,x,h⟩
 . exact .inl h
 . exact .inr ⟨a,x,by rw [h,zy111]⟩
theorem zja (n:Int) (a:List Span) (s:Span):zvv n (a++[s])=if s.hi=n-1 then (a,s.lo) else (a++[s],n):=by
 simp [zvv]
theorem zzq {α:Type} {t n:Nat} {f:α->List PV} {a b:List α} {x y:α} {k:Nat} {r:List PV} (hk:k=a.length) (hr:f y=r) :
 zad.live (.row t n (((a++[x]++b).map f).set k r))=zad.live (.row t n ((a++[y]++b).map f)):=by
 rw [zy28,zy28];exact (zek hk hr).symm
theorem zwx {α:Type} {t n:Nat} {f:α->List PV} {a b:List α} (h:a=b):zad.live (.row t n (a.map f))=zad.live (.row t n (b.map f)):=by rw [h]
theorem ytj (A B:List Span) (n:Int) (hl:zfa (A++B)) (hA:below (A++B) n=A) (hB:zec (A++B) n=B) (hb:(A++B).length<2 ^ 39) (h1:-9223372036854775808<=n) (h2:n<=9223372036854775807) :
 zao Tryz.prog 181 [zax (A++B),i64 n] zae (.own 0) (lk .free [(0,.live (.row 199 2 ((add (A++B) n).map Span.row)))]):=by
 refine zam mixed Tryz.func181 zz5 [] (fun _=>.inl rfl) ?_;have hlen:(A++B).length=A.length+B.length:=zy8;have hf:=found (n:=n) hl;rw [hA] at hf;(conv=>whnf)
 (refine zar [(0,9)]  ?_;(conv=>whnf);refine dO (zex (A++B) zz0) ?_)
 (refine cZ ?_;refine dL (xca (zzx n) (A++B) A.length zz0 (fun i h=>by rw [xdf,ypm hl i h,hA]) zz0) ?_)
 rw [hf];cases hn:has (A++B) n with
 | true =>
  have ha:add (A++B) n=A++B:=by rw [add,hn];rfl
  rw [ha];(conv=>whnf);refine zal [(0,some 9)] rfl rfl trivial rfl rfl ⟨⟨rfl,.inl ⟨9,rfl,rfl⟩⟩,trivial⟩
 | false =>
  have ha:add (A++B) n=(zvv n A).1++⟨(zvv n A).2,(zrv n B).1⟩::(zrv n B).2:=by rw [add,hn,hA,hB];rfl
  rw [ha];(conv=>whnf);have hAl:A.length<2 ^ 39:=by omega
  have hlow:∀ s∈A,s.hi<n:=by have:=zru (l:=A++B) (n:=n);rwa [hA] at this
  have habv:∀ s∈B,n<s.lo:=by have:=yid hl hn;rwa [hB] at this
  (refine zac [] [(1000,9),(1001,23)] [(0,24)] ?_;(conv=>whnf);refine dG (ygp A B ⟨n,n⟩ _ rfl zz0) ?_ ⟨rfl,rfl,rfl,⟨zz1,⟨zz1,trivial⟩⟩,⟨⟨rfl,rfl⟩,trivial⟩,rfl,rfl,rfl⟩)
  cases B with
  | nil =>
   refine zbj (z':=((A.length+1:Nat):Int)) zz24 (zw ?_);refine sN ?_;have hR:zrv n []=(n,[]):=rfl;rw [hR];rcases zgi A with rfl | ⟨A',s,rfl⟩
   . conv=>whnf
     try refine sG ?_
     exact yy36
   . have hs:s.hi<n:=hlow s zz4
     have hsl:(A'++[s]).length=A'.length+1:=by simp
     have hs2:=zik hl s zz4;refine sT ?_;refine zbj (z':=((A'.length:Nat):Int)) zz19 (zw ?_);refine sOm ?_;refine zak (show A'++[s]++⟨n,n⟩::[]=A'++s::⟨n,n⟩::[] by simp) rfl (zw ?_);refine zap (z:=n-1) (zbn zz0 zz0) (zw ?_);by_cases he:s.hi=n-1
     . refine sT ?_
       refine zbj (z':=((A'.length:Nat):Int)) zz19 (zw ?_);refine sOm ?_;refine zak (show A'++[s]++⟨n,n⟩::[]=(A'++[s])++⟨n,n⟩::[] from rfl) rfl (zw ?_);refine sOm ?_;refine zak (show A'++[s]++⟨n,n⟩::[]=A'++s::⟨n,n⟩::[] by simp) zz4 (zw ?_);refine zbj (z':=((A'.length+2:Nat):Int)) zz43 (zw ?_);refine zac [] [(1000,24)] [(0,84)] (zw ?_);refine ⟨_,_,_,_,zif (A'++[⟨s.lo,n⟩]) ([]) ⟨n,n⟩ _ _ zz4 zz3 zz69,⟨rfl,rfl,rfl,⟨⟨rfl,_,rfl,.inl ⟨rfl,?_⟩⟩,trivial⟩,⟨⟨rfl,rfl⟩,trivial⟩,rfl,rfl,rfl⟩,?_⟩
       . exact zzq (f:=Span.row) (a:=A') (b:=⟨n,n⟩::[]) (x:=s) (y:=⟨s.lo,n⟩) zz4 rfl
       exact yy39
     . refine sN ?_
       rw [zja,zy0 he];exact yy36
  | cons x B =>
   have hx:=habv x zz4;have hx2:=zik hl x zz4;have hbl:(x::B).length=B.length+1:=rfl;refine zbj (z':=((A.length+1:Nat):Int)) zz24 (zw ?_);refine sT ?_;refine zbj (z':=((A.length+1:Nat):Int)) zz24 (zw ?_);refine sOm ?_;refine zak (show A++⟨n,n⟩::x::B=(A++[⟨n,n⟩])++x::B by simp) zz4 (zw ?_);refine zap (z:=n+1) (zbn zz0 zz0) (zw ?_);by_cases hr:x.lo=n+1
   . refine sT ?_
     have hR:zrv n (x::B)=(x.hi,B):=by simp [zrv,hr]
     rw [hR];refine zbj (z':=((A.length+1:Nat):Int)) zz24 (zw ?_);refine sOm ?_;refine zak (show A++⟨n,n⟩::x::B=(A++[⟨n,n⟩])++x::B by simp) zz4 (zw ?_);refine sOm ?_;refine zak (show A++⟨n,n⟩::x::B=A++⟨n,n⟩::x::B from rfl) zz4 (zw ?_);refine zbj (z':=((A.length+1:Nat):Int)) zz24 (zw ?_);refine zbj (z':=((A.length+2:Nat):Int)) (by show W ((A.length:Int)+2)=_;rw [zbn (by omega) (by omega)];push_cast;rfl) (zw ?_);refine zac [] [(1000,24)] [(0,56)] (zw ?_);refine ⟨_,_,_,_,yfx (out:=A++⟨n,x.hi⟩::B) (A++[⟨n,x.hi⟩]) B x _ _ rfl zz4 zz4 zz3 zz69,⟨rfl,rfl,rfl,⟨⟨rfl,_,rfl,.inl ⟨rfl,?_⟩⟩,trivial⟩,⟨⟨rfl,rfl⟩,trivial⟩,rfl,rfl,rfl⟩,?_⟩
     . refine (zek (f:=Span.row) (a:=A) (b:=x::B) (x:=⟨n,n⟩) (y:=⟨n,x.hi⟩) zz4 rfl).symm.trans (zwx zz4)
     conv=>whnf
     try refine sG ?_
     rcases zgi A with rfl | ⟨A',s,rfl⟩
     . conv=>whnf
       try refine sG ?_
       refine zal [(0,some 56)] rfl rfl trivial rfl rfl ⟨⟨rfl,.inl ⟨56,rfl,rfl⟩⟩,trivial⟩
     . have hs:s.hi<n:=hlow s zz4
       have hsl:(A'++[s]).length=A'.length+1:=by simp
       have hs2:=zik hl s zz4;refine sT ?_;refine zbj (z':=((A'.length:Nat):Int)) zz19 (zw ?_);refine sOm ?_;refine zak (show A'++[s]++⟨n,x.hi⟩::B=A'++s::⟨n,x.hi⟩::B by simp) rfl (zw ?_);refine zap (z:=n-1) (zbn zz0 zz0) (zw ?_);by_cases he:s.hi=n-1
       . refine sT ?_
         refine zbj (z':=((A'.length:Nat):Int)) zz19 (zw ?_);refine sOm ?_;refine zak (show A'++[s]++⟨n,x.hi⟩::B=(A'++[s])++⟨n,x.hi⟩::B from rfl) rfl (zw ?_);refine sOm ?_;refine zak (show A'++[s]++⟨n,x.hi⟩::B=A'++s::⟨n,x.hi⟩::B by simp) zz4 (zw ?_);refine zbj (z':=((A'.length+2:Nat):Int)) zz43 (zw ?_);refine zac [] [(1000,56)] [(0,84)] (zw ?_);refine ⟨_,_,_,_,zif (A'++[⟨s.lo,x.hi⟩]) (B) ⟨n,x.hi⟩ _ _ zz4 zz3 zz69,⟨rfl,rfl,rfl,⟨⟨rfl,_,rfl,.inl ⟨rfl,?_⟩⟩,trivial⟩,⟨⟨rfl,rfl⟩,trivial⟩,rfl,rfl,rfl⟩,?_⟩
         . exact zzq (f:=Span.row) (a:=A') (b:=⟨n,x.hi⟩::B) (x:=s) (y:=⟨s.lo,x.hi⟩) zz4 rfl
         exact yy39
       . refine sN ?_
         rw [zja,zy0 he];refine zal [(0,some 56)] rfl rfl trivial rfl rfl ⟨⟨rfl,.inl ⟨56,rfl,rfl⟩⟩,trivial⟩
   . refine sN ?_
     have hR:zrv n (x::B)=(n,x::B):=by simp [zrv,hr]
     rw [hR];rcases zgi A with rfl | ⟨A',s,rfl⟩
     . conv=>whnf
       try refine sG ?_
       exact yy36
     . have hs:s.hi<n:=hlow s zz4
       have hsl:(A'++[s]).length=A'.length+1:=by simp
       have hs2:=zik hl s zz4;refine sT ?_;refine zbj (z':=((A'.length:Nat):Int)) zz19 (zw ?_);refine sOm ?_;refine zak (show A'++[s]++⟨n,n⟩::x::B=A'++s::⟨n,n⟩::x::B by simp) rfl (zw ?_);refine zap (z:=n-1) (zbn zz0 zz0) (zw ?_);by_cases he:s.hi=n-1
       . refine sT ?_
         refine zbj (z':=((A'.length:Nat):Int)) zz19 (zw ?_);refine sOm ?_;refine zak (show A'++[s]++⟨n,n⟩::x::B=(A'++[s])++⟨n,n⟩::x::B from rfl) rfl (zw ?_);refine sOm ?_;refine zak (show A'++[s]++⟨n,n⟩::x::B=A'++s::⟨n,n⟩::x::B by simp) zz4 (zw ?_);refine zbj (z':=((A'.length+2:Nat):Int)) zz43 (zw ?_);refine zac [] [(1000,24)] [(0,84)] (zw ?_);refine ⟨_,_,_,_,zif (A'++[⟨s.lo,n⟩]) (x::B) ⟨n,n⟩ _ _ zz4 zz3 zz69,⟨rfl,rfl,rfl,⟨⟨rfl,_,rfl,.inl ⟨rfl,?_⟩⟩,trivial⟩,⟨⟨rfl,rfl⟩,trivial⟩,rfl,rfl,rfl⟩,?_⟩
         . exact zzq (f:=Span.row) (a:=A') (b:=⟨n,n⟩::x::B) (x:=s) (y:=⟨s.lo,n⟩) zz4 rfl
         exact yy39
       . refine sN ?_
         rw [zja,zy0 he];exact yy36
end Ser
namespace Ser
theorem yxo (l:List Span) (n:Int) (hl:zfa l) (hb:l.length<2 ^ 39) (h1:-9223372036854775808<=n) (h2:n<=9223372036854775807) :
 zao Tryz.prog 181 [zax l,i64 n] zae (.own 0) (lk .free [(0,.live (.row 199 2 ((add l n).map Span.row)))]):=by
 have hsp:=split l n;have h:=ytj (below l n) (zec l n) n (by rwa [<- hsp]) (by rw [<- hsp]) (by rw [<- hsp]) (by rwa [<- hsp]) h1 h2
 rwa [<- hsp] at h
def up:List Span->Int->Int×List Span
 | [],n=>(n,[])
 | s::r,n=>if s.lo<=n+1 then up r (if s.hi>n then s.hi else n) else (n,s::r)
def wnd:List Span->List Span->HV
 | [],_=>.own 900
 | _::a,b=>.osl 900 2 (a.length+1) b.length
theorem yjw {α:Type} {f:α->List PV} {l a b c:List α} {o n:Nat} {K:List (List PV)->Prop} (h:l=a++b++c) (ho:o=a.length) (hn:n=b.length) (hk:K (b.map f)):zqy (l.map f) o n K:=by
 subst h ho hn;refine ⟨_,rfl,by simp,?_⟩
 rwa [<- zy106,<- zy121,zy28,zy107,zy147]
theorem yyv {i s o o' n n':Nat} (ho:o=o') (hn:n=n'):HV.osl i s o n=.osl i s o' n':=by rw [ho,hn]
theorem yud (l:List Span) (n:Int) (hl:∀ s∈l,s.hi<=1099511627776) (hb:l.length<2 ^ 39) (h1:-1099511627776<=n) (h2:n<=1099511627776) :
 zao Tryz.prog 180 [zax l,i64 n] zae (.tup [i64 (up l n).1,.own 0]) (lk .free [(0,.live (.row 199 2 ((up l n).2.map Span.row)))]):=by
 refine zam mixed Tryz.func180 zz5 [] (fun _=>.inl rfl) ?_;generalize hR:up l n=R;(conv=>whnf)
 (refine zar [(0,8)]  ?_;(conv=>whnf);refine dO (zex l zz0) ?_)
 refine ⟨{x:(List Span×List Span)×Int // l=x.1.1++x.1.2/\R=up x.1.2 x.2/\-1099511627776<=x.2/\x.2<=1099511627776},fun | ⟨((a,b),m),_⟩=>hs 32 [(1,i64 m),(6,wnd a b)] [(900,.live (.row 199 2 (l.map Span.row)))],fun x=>x.1.1.2.length,⟨(([],l),n),rfl,hR.symm,h1,h2⟩,?_,?_⟩
 . exact (zdi [(900,some 8)])
 rintro ⟨⟨⟨a,b⟩,m⟩,h,hu,hm1,hm2⟩;dsimp only at h hu hm1 hm2;have hlen:l.length=a.length+b.length:=by rw [h];simp
 have hlm:(l.map Span.row).length=l.length:=by simp
 cases a with
 | nil =>
  rw [zy81] at h;rw [zy13,zy66] at hlen;(conv=>whnf);cases b with
  | nil =>
   rw [zy13] at hlen;refine sN ?_
   (refine zar [(0,31)]  ?_;(conv=>whnf);refine dO (zex l zz0) ?_)
   exact yy90
  | cons s r =>
   rw [zy6] at hlen;have hs:=hl s zz59;refine sT ?_;refine zaa zz0 (zw ?_);refine zak (a:=[]) h rfl (zw ?_);refine sF ?_;by_cases c:s.lo<=m+1
   . refine sT ?_
     refine zaa zz0 (zw ?_);refine zak (a:=[]) h rfl (zw ?_);refine zaa zz0 (zw ?_);refine ⟨⟨(([s],r),if s.hi>m then s.hi else m),h,by dsimp only;rw [hu,up,zy1 c],by dsimp only;split<;>omega,by dsimp only;split<;>omega⟩,(zcl [(900,some 900)] zz44),by simp⟩
   . refine sN ?_
     (refine zar [(0,31)]  ?_;(conv=>whnf);refine dO (zex l zz0) ?_)
     rw [show up (s::r) m=(m,s::r) by simp [up,c]] at hu;exact yy90
 | cons t a =>
  rw [zy6] at hlen;have hal:(a.length:Int)+1=((t::a).length:Nat):=by simp
  (conv=>whnf);cases b with
  | nil =>
   rw [zy13] at hlen;(conv=>whnf)
   try refine sG ?_
   refine zar [(0,31)] (zw ?_);refine yjw (a:=t::a) (b:=[]) (c:=[]) zz59 rfl rfl ?_;(conv=>whnf);refine ⟨_,_,zex [] zz4,⟨⟨⟨rfl,rfl⟩,trivial⟩,rfl,rfl,rfl⟩,?_⟩;(conv=>whnf);subst hu;refine zal [(0,some 31)] rfl rfl trivial rfl rfl ⟨⟨rfl,.inl ⟨31,rfl,rfl⟩⟩,trivial⟩
  | cons s r =>
   rw [zy6] at hlen;have hs:=hl s zz59;have hrl:(s::r).length=r.length+1:=rfl;refine sT ?_;refine zaa zz0 (zw ?_);refine zak (a:=t::a) h zz4 (zw ?_);refine sF ?_;by_cases c:s.lo<=m+1
   . refine sT ?_
     refine zaa zz0 (zw ?_);refine zak (a:=t::a) h zz4 (zw ?_);refine zaa zz0 (zw ?_);refine ⟨⟨((t::(a++[s]),r),if s.hi>m then s.hi else m),by rw [h];simp,by dsimp only;rw [hu,up,zy1 c],by dsimp only;split<;>omega,by dsimp only;split<;>omega⟩,(zcl [(900,some 900)] zz44),by simp⟩
   . refine sN ?_
     refine zar [(0,31)] (zw ?_);refine yjw (a:=t::a) (b:=s::r) (c:=[]) zz59 rfl rfl ?_;(conv=>whnf);refine ⟨_,_,zex (s::r) zz0,⟨⟨⟨rfl,rfl⟩,trivial⟩,rfl,rfl,rfl⟩,?_⟩;(conv=>whnf);rw [show up (s::r) m=(m,s::r) by simp [up,c]] at hu;subst hu;refine zal [(0,some 31)] rfl rfl trivial rfl rfl ⟨⟨rfl,.inl ⟨31,rfl,rfl⟩⟩,trivial⟩
instance:DecidableEq Span:=fun a b=>decidable_of_iff (a.lo=b.lo/\a.hi=b.hi) ⟨fun h=>by cases a;cases b;simp_all,fun h=>by rw [h];simp⟩
end Ser
namespace Ser
def p1 (n:Int):List Span->Int×Int->Int×Int
 | [],p=>p
 | s::r,p=>p1 n r (if s.hi=n-1 then (s.lo,p.2) else if s.lo=n+1 then (p.1,s.hi) else p)
def p2 (n lo hi:Int):List Span->Bool->List Span
 | [],put=>if put then [] else [⟨lo,hi⟩]
 | s::r,put=>if s.hi=n-1\/s.lo=n+1 then p2 n lo hi r put else if put=false/\s.lo>n then ⟨lo,hi⟩::s::p2 n lo hi r true else s::p2 n lo hi r put
end Ser
namespace Rcv
open Srt Jn Ser
def yxh (r:Receiver) (a b c d:HV):List HV:=[i64 r.config.streams,i64 r.config.part,i64 r.config.packet,i64 r.config.paths,i64 r.config.turns,i64 r.config.waiting,i64 r.config.first,i64 r.cum,a,b,c,d]
abbrev xet (l:List Span):zad:=.live (.row 199 2 (l.map Span.row))
abbrev xfn (l:List zaw):zad:=.live (.row 162 12 (l.map zaw.row))
abbrev ynt (l:List Int):zad:=.live (.row 3 1 (l.map fun n=>[pi n]))
abbrev xgu (l:List zbw):zad:=.live (.row 56 4 (l.map zbw.row))
abbrev xfm (r:Receiver) (a b c d:Nat):HV:=.agg (yxh r (.own a) (.own b) (.own c) (.own d))
abbrev yxg (r:Receiver) (a b c d:Nat) (L:List (Nat×zad)):List (Nat×zad):=(a,xet r.zax)::(b,xfn r.pieces)::(c,ynt r.zbi)::(d,xgu r.log)::L
abbrev tkH (r:Receiver):List (Nat×zad):=(1000,.live (.cells 225 (yxh r (.own 1001) (.own 1002) (.own 1003) (.own 1004))))::yxg r 1001 1002 1003 1004 []
abbrev tkD (r:Receiver):List (Nat×zad):=(1000,.live (.cells 225 (yxh r (.own 0) (.own 1) (.own 2) (.own 3))))::yxg r 0 1 2 3 [(1001,.dead),(1002,.dead),(1003,.dead),(1004,.dead)]
def yan (c:Config):Receiver:=⟨c,c.first-1,[],[],List.replicate (max c.streams 0).toNat 0,[]⟩
theorem zov (c:Config) (h1:-9223372036854775808<c.first) (h2:c.first<=9223372036854775807) (h3:c.streams<=1099511627776) :
 zao Tryz.prog 110 [c.hv] zae (xfm (yan c) 0 1 2 3) (lk .free (yxg (yan c) 0 1 2 3 [])):=by
 refine zam mixed Tryz.func110 zz5 [] (fun _=>.inl rfl) ?_;(conv=>whnf);refine sF ?_;refine zaa (c:=(0<=(if 0>c.streams then 0 else c.streams:Int)/\(if 0>c.streams then 0 else c.streams:Int)=(if 0>c.streams then 0 else c.streams:Int)/\(if 0>c.streams then 0 else c.streams:Int)*(8:Nat)<=140737488355328)) (by split<;>omega) (zw ?_);refine sD ?_;refine zal [(0,none),(1,none),(2,some 10),(3,none)] rfl rfl trivial rfl rfl ⟨⟨rfl,.inr ⟨rfl,rfl⟩⟩,⟨rfl,.inr ⟨rfl,rfl⟩⟩,⟨rfl,.inl ⟨10,rfl,?_⟩⟩,⟨rfl,.inr ⟨rfl,rfl⟩⟩,trivial⟩;refine zaq ?_;rw [show (yan c).zbi=List.replicate (max c.streams 0).toNat 0 from rfl,zy141];have:(max c.streams 0).toNat=(if 0>c.streams then 0 else c.streams:Int).toNat:=by split<;>omega
 rw [this];rfl
structure Fit (r:Receiver):Prop where
 zax:r.zax.length<2 ^ 36
 pieces:r.pieces.length<2 ^ 22
 bytes:tot r.pieces<2 ^ 22
 zbi:r.zbi.length<2 ^ 36
 log:r.log.length<2 ^ 36
 data:∀ a∈r.log,a.data.length<2 ^ 40
abbrev xcn:List HV:=[i64 0,i64 0,i64 0,i64 0,i64 0,i64 0,i64 0,i64 0,zgc,zgc,zgc,zgc]
theorem zcy (r:Receiver) (hr:Fit r):zao Tryz.prog 111 [r.hv] zae (xfm r 0 1 2 3) (lk .free (yxg r 0 1 2 3 [])):=by
 obtain ⟨h1,h2,h3,h4,h5,h6⟩:=hr;refine zam mixed Tryz.func111 zz5 [] (fun _=>.inl rfl) ?_;(conv=>whnf)
 (refine zar [(0,11)]  ?_;(conv=>whnf);refine dO (Cl.zex r.zax zz0) ?_)
 (refine zar [(0,14)]  ?_;(conv=>whnf);refine dO (Cl.zph r.zbi zz0) ?_)
 refine sD ?_;refine ⟨{x:List zaw×List zaw // r.pieces=x.1++x.2},fun | ⟨(A,B),_⟩=>hs 56 [(1,.ptr 1 0),(2,.ptr 2 0),(3,.own 900),(18,pieces r.pieces),(19,i64 r.pieces.length),(20,i64 A.length)] [(1,.live (.cells 37 (yxh r (.own 11) (pieces r.pieces) (.own 14) (.p (.sl 4 (r.log.map zbw.row)))))),(2,.live (.cells 37 xcn)),(11,xet r.zax),(14,ynt r.zbi),(900,xfn A)],fun x=>x.1.2.length,⟨([],r.pieces),rfl⟩,?_,?_⟩
 . exact (zdi [(1,some 1),(2,some 2),(11,some 11),(14,some 14),(900,none)])
 rintro ⟨⟨A,B⟩,h⟩;dsimp only at h;have hl:r.pieces.length=A.length+B.length:=by rw [h];simp
 (conv=>whnf);cases B with
 | cons p B =>
  have hp:p.chunk.data.length<=tot r.pieces:=xch zz59;rw [zy6] at hl;refine sT ?_;refine zak h rfl (zw ?_)
  (refine zar [(0,27)]  ?_;(conv=>whnf);refine dO (Cl.zcq p.chunk.data zz0) ?_)
  refine zaa (c:=((A.map zaw.row).length+1)*136<=140737488355328) zz3 (zw ?_);refine sF ?_;refine ⟨⟨(A++[p],B),by rw [h];simp⟩,(zcl [(1,some 1),(2,some 2),(11,some 11),(14,some 14),(900,some 33)] (by repeat' (first | exact z0 | refine z1 ?_ | refine ⟨?_,?_⟩ | ((exact zca (f:=zaw.row) rfl rfl)) | exact z2))),by simp⟩
 | nil =>
  rw [zy13] at hl;rw [zy7] at h;refine sN ?_;refine ⟨{x:List zbw×List zbw // r.log=x.1++x.2},fun | ⟨(A,B),_⟩=>hs 56 [(1,.ptr 1 0),(2,.ptr 2 0),(3,.own 900),(6,.own 901),(36,.p (.sl 4 (r.log.map zbw.row))),(37,i64 r.log.length),(38,i64 A.length)] [(1,.live (.cells 37 (yxh r (.own 11) (pieces r.pieces) (.own 14) (.p (.sl 4 (r.log.map zbw.row)))))),(2,.live (.cells 37 xcn)),(11,xet r.zax),(14,ynt r.zbi),(900,xfn r.pieces),(901,xgu A)],fun x=>x.1.2.length,⟨([],r.log),rfl⟩,?_,?_⟩
  . exact (zcl [(1,some 1),(2,some 2),(11,some 11),(14,some 14),(900,some 900),(901,none)] zz46)
  rintro ⟨⟨A,B⟩,h⟩;dsimp only at h;have hl:r.log.length=A.length+B.length:=by rw [h];simp
  (conv=>whnf);cases B with
  | cons p B =>
   have hp:=h6 p zz59;rw [zy6] at hl;refine sT ?_;refine zak h rfl (zw ?_)
   (refine zar [(0,44)]  ?_;(conv=>whnf);refine dO (Cl.zcq p.data zz0) ?_)
   refine zaa (c:=((A.map zbw.row).length+1)*48<=140737488355328) zz3 (zw ?_);refine sF ?_;refine ⟨⟨(A++[p],B),by rw [h];simp⟩,(zcl [(1,some 1),(2,some 2),(11,some 11),(14,some 14),(900,some 900),(901,some 49)] (by repeat' (first | exact z0 | refine z1 ?_ | refine ⟨?_,?_⟩ | ((exact zca (f:=zbw.row) rfl rfl)) | exact z2))),by simp⟩
  | nil =>
   rw [zy13] at hl;rw [zy7] at h;refine sN ?_;refine zal [(0,some 11),(1,some 900),(2,some 14),(3,some 901)] rfl rfl trivial rfl rfl ⟨⟨rfl,.inl ⟨11,rfl,rfl⟩⟩,⟨rfl,.inl ⟨900,rfl,rfl⟩⟩,⟨rfl,.inl ⟨14,rfl,rfl⟩⟩,⟨rfl,.inl ⟨901,rfl,?_⟩⟩,trivial⟩;exact zaq (by rw [h])
theorem yen (r:Receiver) (h2:r.pieces.length<2 ^ 40) (h3:tot r.pieces<2 ^ 60):zao Tryz.prog 179 [r.hv] zae (i64 (tot r.pieces:Nat)) zae:=by
 refine zas mixed Tryz.func179 zz5 ?_;exact yy15
theorem yoi (r:Receiver) (h2:r.pieces.length<2 ^ 40) (h3:tot r.pieces<2 ^ 60):zao Tryz.prog 57 [r.hv] zae (i64 (tot r.pieces:Nat)) zae:=by
 refine zas mixed Tryz.func57 zz5 ?_;exact yy15
def zfj (s m:Int) (o:Bool) (p:zaw):Bool:=decide (p.chunk.stream=s)&&decide (p.chunk.mid=m)&&(p.chunk.ordered==o)
theorem ytu (p:zaw) (s m:Int) (o:Bool):zao Tryz.prog 199 [.rp p.row,i64 s,i64 m,zbo o] zae (zbo (zfj s m o p)) zae:=by
 refine zas mixed Tryz.func199 zz5 ?_;(conv=>whnf);by_cases c1:p.chunk.stream=s
 . refine zai zz50 ?_;conv=>whnf
   by_cases c2:p.chunk.mid=m
   . refine zai zz45 ?_;conv=>whnf
     simp [zfj,c1,c2]
   . refine zaf zz45 (zw ?_)
     simp [zfj,c2]
 . refine zaf zz50 (zw ?_)
   simp [zfj,c1]
theorem yoa (s m:Int) (o:Bool) (p:zaw):zao Tryz.prog 211 [p.hv,.rp [pi s],.rp [pi m],.rp [pb o]] zae (zbo (zfj s m o p)) zae:=by
 refine zas mixed Tryz.func211 zz5 ?_;(conv=>whnf)
 ((refine zbk ?_;(conv=>whnf);refine ⟨_,ytu p s m o,rfl,?_⟩;conv=>whnf);try refine sG ?_)
def zpj (r:Receiver) (s m:Int) (o:Bool):Receiver:={r with pieces:=r.pieces.filter fun p=>!zfj s m o p}
theorem zul (r:Receiver) (s m:Int) (o:Bool) (h2:r.pieces.length<2 ^ 38) :
 zao Tryz.prog 201 [.ptr 1000 0,i64 s,i64 m,zbo o] (lk .free (tkH r)) (.tup []) (lk .free (tkD (zpj r s m o))):=by
 refine zam mixed Tryz.func201 zz5 [1000,1001,1002,1003,1004] zbh ?_;(conv=>whnf)
 (refine zac [false,true] [(1000,1002)] [(0,15)] ?_;(conv=>whnf);refine dG (Cl.ymn (fun p=>yoa s m o p) r.pieces zz0) ?_)
 (exact zby (pK5 [(0,some 1001),(1,some 15),(2,some 1003),(3,some 1004)]))
def dlv (r:Receiver) (s m:Int) (o:Bool):Receiver×Bool:=match join (r.pieces.filter (zfj s m o)) with
 | none=>(r,false)
 | some b=>({zpj r s m o with log:=r.log++[⟨s,m,o,b⟩]},true)
theorem zmi (f:zaw->Bool):∀ l:List zaw,tot (l.filter f)<=tot l
 | []=>zy25 _
 | p::l=>by
  have:=zmi f l;rw [zy47];split
  . rw [zeb,zeb];omega
  . rw [zeb];omega
theorem zlm (r:Receiver) (s m:Int) (o:Bool) (h2:r.pieces.length<2 ^ 37) (h3:tot r.pieces<2 ^ 40) (h4:r.log.length<2 ^ 38) :
 zao Tryz.prog 183 [.ptr 1000 0,i64 s,i64 m,zbo o] (lk .free (tkH r)) (zbo (dlv r s m o).2) (lk .free (tkD (dlv r s m o).1)):=by
 refine zam mixed Tryz.func183 zz5 [1000,1001,1002,1003,1004] zbh ?_;(conv=>whnf);refine ⟨{x:List zaw×List zaw // r.pieces=x.1++x.2},fun | ⟨(A,B),_⟩=>hsP [1000,1001,1002,1003,1004] 61 [(0,.ptr 1000 0),(1,i64 s),(2,i64 m),(3,zbo o),(8,zbo false),(9,.own 900),(18,.own 1002),(19,i64 r.pieces.length),(20,i64 A.length)] (tkH r++[(900,xfn (A.filter (zfj s m o)))]),fun x=>x.1.2.length,⟨([],r.pieces),rfl⟩,?_,?_⟩
 . exact (zbu (pK5 [(900,none)]) zz2)
 rintro ⟨⟨A,B⟩,h⟩;dsimp only at h;have hl:r.pieces.length=A.length+B.length:=by rw [h];simp
 have hf:=zy55 (zfj s m o) A;(conv=>whnf);cases B with
 | cons p B =>
  rw [zy6] at hl;refine sT ?_;refine sO ?_;refine zak h rfl (zw ?_)
  (refine cL ?_;refine dL (ytu p s m o) ?_)
  cases hp:zfj s m o p with
  | true =>
   conv=>whnf
   try refine sG ?_
   refine zaa (c:=(((A.filter (zfj s m o)).map zaw.row).length+1)*136<=140737488355328) zz3 (zw ?_)
   try refine sG ?_
   refine sF ?_;exact ⟨⟨(A++[p],B),by rw [h];simp⟩,(zbu (pK5 [(900,some 31)]) (by repeat' (first | exact z0 | refine z1 ?_ | refine ⟨?_,?_⟩ | ((exact zca (f:=zaw.row) (by rw [zy71,zy47,zy1 hp];rfl) rfl)) | exact z2))),by simp⟩
  | false =>
   conv=>whnf
   try refine sG ?_
   refine sF ?_;exact ⟨⟨(A++[p],B),by rw [h];simp⟩,(zbu (pK5 [(900,some 900)]) (by repeat' (first | exact z0 | refine z1 ?_ | refine ⟨?_,?_⟩ | ((exact zaq (by rw [zy71,zy47,zy0 (by rw [hp];decide)];simp))) | exact z2))),by simp⟩
 | nil =>
  rw [zy13] at hl;rw [zy7] at h;have ht:=zmi (zfj s m o) A;have hA:tot A=tot r.pieces:=by rw [h]
  have hd:dlv r s m o=match join (A.filter (zfj s m o)) with
   | none=>(r,false)
   | some b=>({zpj r s m o with log:=r.log++[⟨s,m,o,b⟩]},true):=by rw [dlv,h]
  have ps:=ytp (A.filter (zfj s m o)) zz0 zz0;refine sN ?_;cases hj:join (A.filter (zfj s m o)) with
  | none =>
   rw [hj] at hd ps;rw [hd]
   (refine zar [(0,35)]  ?_;(conv=>whnf);refine dO ps ?_)
   exact yy75
  | some b =>
   rw [hj] at hd ps;rw [hd]
   (refine zar [(0,35)]  ?_;(conv=>whnf);refine dO ps ?_)
   refine zaa (c:=((r.log.map zbw.row).length+1)*48<=140737488355328) zz3 (zw ?_)
   try refine sG ?_
   (refine zac [] [(1000,1000),(1001,1001),(1002,1002),(1003,1003),(1004,52)] [(0,910),(1,911),(2,912),(3,913)] ?_;(conv=>whnf);refine dG (zul {r with log:=r.log++[⟨s,m,o,b⟩]} s m o zz66) ?_ ⟨rfl,rfl,rfl,⟨zz1,⟨zz1,⟨zz1,⟨zz1,⟨⟨rfl,_,rfl,.inl ⟨rfl,zca (f:=zbw.row) (x:=⟨s,m,o,b⟩) rfl rfl⟩⟩,trivial⟩⟩⟩⟩⟩,⟨⟨rfl,rfl⟩,⟨⟨rfl,rfl⟩,⟨⟨rfl,rfl⟩,⟨⟨rfl,rfl⟩,trivial⟩⟩⟩⟩,rfl,rfl,rfl⟩)
   exact yy55
theorem zyz {l:List zaw} {b:List UInt8} (h:join l=some b):0<l.length:=by
 unfold join at h;split at h
 . cases h
 . rename_i c;exact zy27.2 c
theorem znv {r:Receiver} {s m:Int} {o:Bool} (h:(dlv r s m o).2=true):(dlv r s m o).1.pieces.length<r.pieces.length:=by
 unfold dlv at h ⊢;split
 . rename_i hj;rw [hj] at h;cases h
 . rename_i b hj
   have h1:=zyz hj;have h2:(r.pieces.filter fun p=>!zfj s m o p).length+(r.pieces.filter (zfj s m o)).length=r.pieces.length:=by
    induction r.pieces with
    | nil=>rfl
    | cons p l ih =>
     rw [zy47,zy47];cases zfj s m o p<;>simp<;>omega
   show (r.pieces.filter fun p=>!zfj s m o p).length<_;omega
theorem zjb (r:Receiver) (s m:Int) (o:Bool):(dlv r s m o).1.zbi=r.zbi/\(dlv r s m o).1.cum=r.cum/\(dlv r s m o).1.zax=r.zax/\(dlv r s m o).1.config=r.config/\(dlv r s m o).1.pieces.length<=r.pieces.length/\tot (dlv r s m o).1.pieces<=tot r.pieces /\
 (dlv r s m o).1.log.length+(dlv r s m o).1.pieces.length<=r.log.length+r.pieces.length:=by
 have hl:=fun h=>znv (r:=r) (s:=s) (m:=m) (o:=o) h
 unfold dlv at hl ⊢;split
 . exact ⟨rfl,rfl,rfl,rfl,zy25 _,zy25 _,zy25 _⟩
 . rename_i b hj
   rw [hj] at hl;have h1:=hl rfl;dsimp only [zpj] at h1 ⊢;refine ⟨rfl,rfl,rfl,rfl,zy55 _ _,zmi _ _,?_⟩;simp only [zy8,zy50];omega
def yox (r:Receiver) (k:Nat):Receiver:={r with zbi:=r.zbi.set k (r.zbi[k]?.getD 0+1)}
def zpb:Nat->Receiver->Nat->Receiver
 | 0,r,_=>r
 | n+1,r,k=>if (dlv r k (tag (r.zbi[k]?.getD 0)) true).2 then zpb n (yox (dlv r k (tag (r.zbi[k]?.getD 0)) true).1 k) k else (dlv r k (tag (r.zbi[k]?.getD 0)) true).1
def turns (r:Receiver) (k:Nat):Receiver:=zpb (r.pieces.length+1) r k
theorem zxh (r:Receiver) (k:Nat):turns r k=if (dlv r k (tag (r.zbi[k]?.getD 0)) true).2 then turns (yox (dlv r k (tag (r.zbi[k]?.getD 0)) true).1 k) k else (dlv r k (tag (r.zbi[k]?.getD 0)) true).1:=by
 have gen:∀ (n m:Nat) (r:Receiver),r.pieces.length<n->r.pieces.length<m->zpb n r k=zpb m r k:=by
  intro n
  induction n with
  | zero=>intro m r h;omega
  | succ n ih =>
   intro m r h1 h2;cases m with
   | zero=>omega
   | succ m =>
    rw [zpb,zpb];split
    . rename_i hd
      have:=znv hd;exact ih m _ (by show (dlv r k _ true).1.pieces.length<n;omega) (by show (dlv r k _ true).1.pieces.length<m;omega)
    . rfl
 conv=>lhs;rw [turns,zpb]
 split
 . rename_i hd
   have:=znv hd;exact gen _ _ _ (by show (dlv r k _ true).1.pieces.length<_;omega) (by show (dlv r k _ true).1.pieces.length<_;exact zy155 _)
 . rfl
structure xdc (r:Receiver) (k:Nat):Prop where
 pieces:r.pieces.length<2 ^ 22
 bytes:tot r.pieces<2 ^ 22
 log:r.log.length+r.pieces.length<2 ^ 37
 has:k<r.zbi.length
 lo:-(2 ^ 60)<r.zbi[k]?.getD 0
 hi:r.zbi[k]?.getD 0+r.pieces.length<2 ^ 60
theorem yuc (r:Receiver) (k:Nat) (hf:xdc r k) :
 zao Tryz.prog 182 [.ptr 1000 0,i64 k] (lk .free (tkH r)) (.tup []) (lk .free (tkD (turns r k))):=by
 generalize hT:turns r k=T;refine zam mixed Tryz.func182 zz5 [1000,1001,1002,1003,1004] zbh ?_;(conv=>whnf);refine ⟨{x:Receiver // xdc x k/\turns x k=T},fun | ⟨x,_⟩=>hsP [1000,1001,1002,1003,1004] 26 [(0,.ptr 1000 0),(1,i64 k)] ((1000,.live (.cells 225 (yxh x (.own 900) (.own 901) (.own 902) (.own 903))))::yxg x 900 901 902 903 [(1001,.dead),(1002,.dead),(1003,.dead),(1004,.dead)]),fun x=>x.1.pieces.length,⟨r,hf,hT⟩,?_,?_⟩
 . exact (zcu (pK5 [(900,some 1001),(901,some 1002),(902,some 1003),(903,some 1004)]))
 rintro ⟨x,⟨h1,h2,h3,h4,h5,h6⟩,he⟩;(conv=>whnf);refine sO ?_;refine zdj k rfl h4 (zw ?_);have hg:x.zbi[k]?.getD 0=x.zbi[k]:=by simp [h4]
 (refine cL ?_;refine dL (zct _) ?_)
 have hstep:=zxh x k;rw [he,hg] at hstep;rw [hg] at h5 h6;obtain ⟨k1,k2,k3,k4,k5,k6,k7⟩:=zjb x k (tag x.zbi[k]) true;have hless:(dlv x k (tag x.zbi[k]) true).2=true->(dlv x k (tag x.zbi[k]) true).1.pieces.length<x.pieces.length:=fun h=>znv h
 (refine zac [] [(1000,1000),(1001,900),(1002,901),(1003,902),(1004,903)] [(0,910),(1,911),(2,912),(3,913)] ?_;(conv=>whnf);refine dG (zlm x k (tag x.zbi[k]) true zz0 zz0 zz0) ?_)
 generalize hD:dlv x k (tag x.zbi[k]) true=D at *
 obtain ⟨y,ok⟩:=D;dsimp only at k1 k2 k3 k4 k5 k6 k7 hless hstep;have h4':k<y.zbi.length:=by rw [k1];exact h4
 have hyk:y.zbi[k]=x.zbi[k]:=by simp only [k1]
 cases ok with
 | false =>
  have hstep:T=y:=hstep;subst hstep;(conv=>whnf)
  try refine sG ?_
  exact yy55
 | true =>
  have hless:=hless rfl;(conv=>whnf)
  try refine sG ?_
  refine sO ?_;refine zdj k rfl h4' (zw ?_);rw [hyk];refine sF ?_;refine sO ?_;refine zdj k rfl h4' (zw ?_);have hb:(yox y k).zbi[k]?.getD 0=x.zbi[k]+1:=by
   show (y.zbi.set k (y.zbi[k]?.getD 0+1))[k]?.getD 0=_;rw [zy20 h4',zy2 h4',hyk];rfl
  refine ⟨⟨yox y k,⟨by show y.pieces.length<_;omega,by show tot y.pieces<_;omega,by show y.log.length+y.pieces.length<_;omega,by show k<(y.zbi.set k _).length;rw [zy26];exact h4',by rw [hb];omega,by rw [hb];show _+(y.pieces.length:Int)<_;omega⟩,?_⟩,(zbu (pK5 [(900,some 910),(901,some 911),(902,some 912),(903,some 913)]) (by repeat' (first | exact z0 | refine z1 ?_ | refine ⟨?_,?_⟩ | ((refine zaq ?_;show _=(y.zbi.set k (y.zbi[k]?.getD 0+1)).map _;rw [zy102,zy2 h4',hyk];rfl)) | exact z2))),by show y.pieces.length<x.pieces.length;omega⟩;rw [hstep];rfl
end Rcv
end Go.HL
