/- The law SenderKeeps. -/
import Derived.Test.YticmofoeecjnhaaKeepP
namespace Go.HL
open Go.Proofs
namespace Snd
open Ser
set_option maxHeartbeats 8000000
set_option maxRecDepth 100000
set_option linter.unusedSimpArgs false
def cfg9 : Config := ⟨1, 4, 40, 1, 1, 3, 0⟩
def msg9 : Message := ⟨0, false, 0, 0, [104, 101, 108, 108, 111]⟩
def snk9 : Chunk := ⟨2, 1, 0, 0, 0, false, false, [], [], 100, []⟩
def sn0 : Sender := newS cfg9
def sn1 : Sender := sendS sn0 msg9
def sn2 : Sender := (pump sn1).1
def sn3 : Sender := hear sn2 snk9
theorem sn0_si : SI 0 sn0 := new_si (by decide)
theorem sn1_si : SI 1 sn1 := send_si sn0_si (by decide +kernel) (by decide)
theorem sn2_si : SI 1 sn2 := pump_si sn1_si
theorem alive_gen9 {S0 S1 S2 S3 S4 : Sender} {k : Packet} (p0 : FunOK Try.prog 27 [cfg9.hv] noHeap (.tup [S0.hv, i64 0]) noHeap) (p1 : FunOK Try.prog 28 [S0.hv, msg9.hv] noHeap (.tup [S1.hv, i64 0, i64 0]) noHeap)
    (p2 : FunOK Try.prog 30 [S1.hv] noHeap (.tup [S2.hv, .p (.sl 3 ([k].map Packet.row))]) noHeap) (p3 : FunOK Try.prog 50 [S2.hv, snk9.hv] noHeap S3.hv noHeap) (p4 : FunOK Try.prog 29 [S2.hv] noHeap S4.hv noHeap)
    (p5 : FunOK Try.prog 51 [S3.hv] noHeap (hbool true) noHeap) (p6 : FunOK Try.prog 51 [S2.hv] noHeap (hbool false) noHeap) (p7 : FunOK Try.prog 52 [S2.hv] noHeap S2.hv noHeap)
    (p8 : FunOK Try.prog 53 [(⟨0, 0, 0, 0, 0, 0, 0⟩ : Config).hv] noHeap (i64 3) noHeap)
    (e1 : S1.queue.length = 1) (e2 : S2.out.length = 2) (e3 : S3.out.length = 0) (e4 : S3.fates = [2]) (e5 : S4.clock = 1) : FunOK Try.prog 26 [] noHeap (hbool true) noHeap := by
  refine funOK_pure mixed Try.func26 (by decide) ?_
  conv => whnf
  ((refine hcall_pure ?_; (conv => whnf); refine ⟨_, p0, rfl, ?_⟩; conv => whnf); try (refine hcut.go ?_; conv => whnf))
  ((refine hobl_intro ?_ ?_; (· first | kernel_rfl | (first | omega | (simp only [List.length_map, List.length_append, List.length_take, List.length_drop, List.length_cons, List.length_nil] <;> omega) | (simp <;> omega))); conv => whnf); try (refine hcut.go ?_; conv => whnf))
  ((refine hcall_pure ?_; (conv => whnf); refine ⟨_, p1, rfl, ?_⟩; conv => whnf); try (refine hcut.go ?_; conv => whnf))
  rw [show (((S1.queue.map Queued.row).length : Int) != 1) = false by rw [List.length_map, e1]; rfl]
  conv => whnf
  repeat (refine hcut.go ?_; conv => whnf)
  ((refine hcall_pure ?_; (conv => whnf); refine ⟨_, p2, rfl, ?_⟩; conv => whnf); try (refine hcut.go ?_; conv => whnf))
  ((refine hcall_pure ?_; (conv => whnf); refine ⟨_, p3, rfl, ?_⟩; conv => whnf); try (refine hcut.go ?_; conv => whnf))
  ((refine hcall_pure ?_; (conv => whnf); refine ⟨_, p4, rfl, ?_⟩; conv => whnf); try (refine hcut.go ?_; conv => whnf))
  rw [show (((S2.out.map Sent.row).length : Int) == 2) = true by rw [List.length_map, e2]; rfl]
  conv => whnf
  rw [show (((S3.out.map Sent.row).length : Int) == 0) = true by rw [List.length_map, e3]; rfl]
  refine hif_true rfl ?_; conv => whnf
  rw [show (((S3.fates.map fun n : Int => [pi n]).length : Int) == 1) = true by rw [List.length_map, e4]; rfl]
  refine hif_true rfl ?_; conv => whnf
  refine hrow_intro (r := [pi 2]) (by decide) (by rw [e4]; rfl) ?_; conv => whnf
  rw [show (S4.clock == 1) = true by rw [e5]; rfl]
  refine hif_true rfl ?_; conv => whnf
  ((refine hcall_lend ?_; (conv => whnf); refine ⟨_, p5, rfl, ?_⟩; conv => whnf); try (refine hcut.go ?_; conv => whnf))
  ((refine hcall_lend ?_; (conv => whnf); refine ⟨_, p6, rfl, ?_⟩; conv => whnf); try (refine hcut.go ?_; conv => whnf))
  ((refine hcall_pure ?_; (conv => whnf); refine ⟨_, p7, rfl, ?_⟩; conv => whnf); try (refine hcut.go ?_; conv => whnf))
  rw [show (((S2.out.map Sent.row).length : Int) == 2) = true by rw [List.length_map, e2]; rfl]
  refine hif_true rfl ?_; conv => whnf
  ((refine hcall_lend ?_; (conv => whnf); refine ⟨_, p8, rfl, ?_⟩; conv => whnf); try (refine hcut.go ?_; conv => whnf))
  try rfl
theorem spec_alive9 : FunOK Try.prog 26 [] noHeap (hbool true) noHeap := by
  have p0 := spec_new cfg9
  have p1 := spec_send sn0 msg9 sn0_si.fit (by decide)
  have p2 := spec_pump sn1 sn1_si.pf (by show inI 40; unfold inI; decide) (by decide)
  have p3 := spec_hear sn2 snk9 sn2_si.fit sn2_si.right (by decide)
  have p4 := spec_tick sn2 sn2_si.fit
  have p5 := spec_calm sn3
  have p6 := spec_calm sn2
  have p7 := spec_ownp sn2 sn2_si.fit
  have p8 := spec_wrgS ⟨0, 0, 0, 0, 0, 0, 0⟩
  rw [show newP cfg9 = (sn0, 0) by kernel_rfl] at p0
  rw [show sendR sn0 msg9 = (sn1, 0, 0) by kernel_rfl] at p1
  rw [show calm sn3 = true by decide +kernel] at p5
  rw [show calm sn2 = false by decide +kernel] at p6
  rw [show wrgS ⟨0, 0, 0, 0, 0, 0, 0⟩ = 3 by decide +kernel] at p8
  obtain ⟨k, hk⟩ : ∃ k, (pump sn1).2 = [k] := List.length_eq_one_iff.1 (by decide +kernel)
  rw [hk] at p2
  exact alive_gen9 p0 p1 p2 p3 p4 p5 p6 p7 p8 (by decide +kernel) (by decide +kernel) (by decide +kernel) (by decide +kernel) (by decide +kernel)
abbrev sndL (s : Sender) : HSlot := .live (.cells 62 s.cells)
abbrev rowM (l : List Message) : HSlot := .live (.row 68 5 (l.map Message.row))
theorem new_ki (c : Config) : KI [] (newS c) := ⟨rfl, fun m hm => by simp [newS] at hm, fun x hx => by simp [newS] at hx, fun k hk => by simp [newS] at hk⟩
theorem keepslaw (c : Config) (l : List Step) (hb : ∀ x ∈ l, x.message.data.length ≤ 2 ^ 21) : FunOK Try.prog 6 [c.hv, .p (.sl 7 (l.map Step.row))] noHeap (hbool true) noHeap := by
  refine funOK_pure mixed Try.func6 (by decide) ?_
  conv => whnf
  ((refine hcall_lend ?_; (conv => whnf); refine ⟨_, spec_alive9, rfl, ?_⟩; conv => whnf); try (refine hcut.go ?_; conv => whnf))
  have pn := spec_new c
  by_cases c1 : wrgS c = 0
  case neg =>
    rw [show newP c = (noS, wrgS c) from if_neg c1] at pn
    ((refine hcall_pure ?_; (conv => whnf); refine ⟨_, pn, rfl, ?_⟩; conv => whnf); try (refine hcut.go ?_; conv => whnf))
    rw [show (wrgS c != 0) = true from bne_iff_ne.2 c1]
    conv => whnf
    try rfl
  case pos =>
    rw [show newP c = (newS c, 0) from if_pos c1] at pn
    ((refine hcall_pure ?_; (conv => whnf); refine ⟨_, pn, rfl, ?_⟩; conv => whnf); try (refine hcut.go ?_; conv => whnf))
    refine hif_intro (fun c2 => ?_) (fun c2 => ?_)
    · conv => whnf
      try rfl
    have c2 : l.length ≤ 200 := by simp at c2; omega
    conv => whnf
    repeat (refine hcut.go ?_; conv => whnf)
    have hcfg := wrg_zero c1
    refine ⟨{ x : Sender × List Message × List Step × List Step // l = x.2.2.1 ++ x.2.2.2 ∧ SI x.2.2.1.length x.1 ∧ KI x.2.1 x.1 ∧ x.1.config = c }, fun | ⟨(s, L, a, b), _⟩ => hs 102 [(5, .ptr 5 0), (7, .own 900), (29, .p (.sl 7 (l.map Step.row))), (30, i64 l.length), (31, i64 a.length)] [(5, sndL s), (900, rowM L)], fun x => x.1.2.2.2.length, ⟨(newS c, [], [], l), rfl, new_si c1, new_ki c, rfl⟩, ?_, ?_⟩
    · exact (hle_Q [(5, some 5), (900, none)])
    rintro ⟨⟨s, L, a, b⟩, k1, k2, k3, k4⟩
    dsimp only at k1 k2 k3 k4
    refine hwp_gen fun Q hQ => ?_
    cases b with
    | nil =>
      have hz := zip_nil k1
      conv => whnf
      ((refine hif_F ?_; conv => whnf); try (refine hcut.go ?_; conv => whnf))
      refine hQ _ _ ?_; conv => whnf
      try rfl
    | cons y b =>
      have hz := zip_cons k1
      have hyd := hb y (zip_mem k1)
      have hLl := k3.len
      have hfm := k2.many
      conv => whnf
      ((refine hif_T ?_; conv => whnf); try (refine hcut.go ?_; conv => whnf))
      refine hrow_mid k1 rfl ?_; conv => whnf
      repeat (refine hcut.go ?_; conv => whnf)
      by_cases c3 : y.kind = 1
      case pos =>
        refine hif_true (by simpa using c3) ?_; conv => whnf
        have ps := spec_send s y.message k2.fit (by omega)
        by_cases e1 : sendErr s y.message = 0
        case pos =>
          rw [sendR_yes e1] at ps
          ((refine hcall_pure ?_; (conv => whnf); refine ⟨_, ps, rfl, ?_⟩; conv => whnf); try (refine hcut.go ?_; conv => whnf))
          repeat (refine hcut.go ?_; conv => whnf)
          refine hif_false (by simp; omega) ?_; conv => whnf
          repeat (refine hcut.go ?_; conv => whnf)
          refine hobl_intro (c := ((L.map Message.row).length + 1) * 56 ≤ 140737488355328) (by simp; omega) ?_; conv => whnf
          repeat (refine hcut.go ?_; conv => whnf)
          have hsi := send_si k2 e1 (by omega)
          have hki := send_ki k3 k2 y.message
          have hcc : ((sendS s y.message)).config = c := k4
          have hnp := (hsi).npaths
          rw [hcc] at hnp
          ((refine hcall_pure ?_; (conv => whnf); refine ⟨_, spec_pump (sendS s y.message) (hsi).pf (by rw [hcc]; unfold inI; omega) (by omega), rfl, ?_⟩; conv => whnf); try (refine hcut.go ?_; conv => whnf))
          have hk2 := pump_ki hki hsi
          have hs2 := pump_si hsi
          have hc2 := pump_cfg (hsi)
          generalize (pump (sendS s y.message)).1 = t at hk2 hs2 hc2 ⊢
          have hlen := hk2.len
          try simp only [List.length_append, List.length_singleton] at hlen
          refine hif_false (by simp; omega) ?_; conv => whnf
          repeat (refine hcut.go ?_; conv => whnf)
          refine ⟨{ w : List Int × List Int // t.fates = w.1 ++ w.2 }, fun | ⟨(A, B), _⟩ => hs 102 [(5, .ptr 5 0), (7, .own 900), (29, .p (.sl 7 (l.map Step.row))), (30, i64 l.length), (31, i64 a.length), (75, ints t.fates), (76, i64 t.fates.length), (77, i64 A.length)] [(5, sndL t), (900, rowM (L ++ [y.message]))], fun w => w.1.2.length, ⟨([], t.fates), rfl⟩, ?_, ?_⟩
          · exact (hle_Q [(5, some 5), (900, some 57)] (by repeat' (first | exact trivial | exact rfl | (refine ⟨⟨rfl, ?_⟩, ?_⟩) | (refine ⟨rfl, ?_⟩) | ((exact row_app (f := Message.row) rfl rfl)) | (simp; done) | (simp; rfl))) (by repeat' (first | exact trivial | exact rfl | exact .inl rfl | exact .inr rfl | (refine ⟨⟨rfl, .inl ⟨_, rfl, ?_⟩⟩, ?_⟩) | (refine ⟨⟨rfl, _, rfl, ?_⟩, ?_⟩) | (refine ⟨⟨rfl, .inr ⟨rfl, ?_⟩⟩, ?_⟩) | (refine ⟨rfl, ?_⟩) | ((exact row_app (f := Message.row) rfl rfl)) | (simp; done) | (simp; rfl))))
          rintro ⟨⟨A, B⟩, g⟩
          dsimp only at g
          refine hwp_gen fun Q2 hQ2 => ?_
          cases B with
          | nil =>
            have gz := zip_nil g
            conv => whnf
            ((refine hif_F ?_; conv => whnf); try (refine hcut.go ?_; conv => whnf))
            refine hQ2 _ _ ?_; conv => whnf
            ((refine hwrap_F ?_; conv => whnf); try (refine hcut.go ?_; conv => whnf))
            refine hQ _ _ ?_; conv => whnf
            exact ⟨⟨(t, (L ++ [y.message]), a ++ [y], b), zip_next k1, hs2.mono (by simp) (by simp; omega), hk2, by rw [hc2]; exact hcc⟩, (hle_Q [(5, some 5), (900, some 900)]), by simp⟩
          | cons f B =>
            have gz := zip_cons g
            have hf : t.fates[A.length]? = some f := by rw [g]; simp
            obtain ⟨m, hm⟩ : ∃ m, ((L ++ [y.message]))[A.length]? = some m := ⟨_, List.getElem?_eq_getElem (by rw [← hk2.len]; omega)⟩
            have hml := (List.getElem?_eq_some_iff.1 hm).1
            conv => whnf
            ((refine hif_T ?_; conv => whnf); try (refine hcut.go ?_; conv => whnf))
            refine hrow_mid (f := fun n : Int => [pi n]) g rfl ?_; conv => whnf
            by_cases d1 : f = 3
            case neg =>
              rw [show (f == 3) = false from beq_eq_false_iff_ne.2 d1]
              conv => whnf
              repeat (refine hcut.go ?_; conv => whnf)
              ((refine hwrap_F ?_; conv => whnf); try (refine hcut.go ?_; conv => whnf))
              refine hQ2 _ _ ?_; conv => whnf
              exact ⟨⟨(A ++ [f], B), zip_next g⟩, (hle_Q [(5, some 5), (900, some 900)]), by simp⟩
            case pos =>
              subst d1
              have hl := hk2.gone A.length hf m hm
              refine hif_true rfl ?_; conv => whnf
              refine hobl_intro ⟨by omega, by rw [List.length_map]; omega⟩ ?_; conv => whnf
              refine hrow_q hm rfl ?_; conv => whnf
              by_cases d2 : m.life = 0
              case neg =>
                rw [show (m.life == 0) = false from beq_eq_false_iff_ne.2 d2]
                conv => whnf
                repeat (refine hcut.go ?_; conv => whnf)
                ((refine hwrap_F ?_; conv => whnf); try (refine hcut.go ?_; conv => whnf))
                refine hQ2 _ _ ?_; conv => whnf
                exact ⟨⟨(A ++ [3], B), zip_next g⟩, (hle_Q [(5, some 5), (900, some 900)]), by simp⟩
              case pos =>
                rw [show (m.life == 0) = true from beq_iff_eq.2 d2]
                refine hif_true rfl ?_; conv => whnf
                refine hobl_intro ⟨by omega, by rw [List.length_map]; omega⟩ ?_; conv => whnf
                refine hrow_q hm rfl ?_; conv => whnf
                rw [show (m.tries == 0) = false from beq_eq_false_iff_ne.2 (by omega)]
                conv => whnf
                repeat (refine hcut.go ?_; conv => whnf)
                ((refine hwrap_F ?_; conv => whnf); try (refine hcut.go ?_; conv => whnf))
                refine hQ2 _ _ ?_; conv => whnf
                exact ⟨⟨(A ++ [3], B), zip_next g⟩, (hle_Q [(5, some 5), (900, some 900)]), by simp⟩
        case neg =>
          rw [sendR_no rfl e1] at ps
          ((refine hcall_pure ?_; (conv => whnf); refine ⟨_, ps, rfl, ?_⟩; conv => whnf); try (refine hcut.go ?_; conv => whnf))
          rw [show (sendErr s y.message == 0) = false from beq_eq_false_iff_ne.2 e1]
          conv => whnf
          repeat (refine hcut.go ?_; conv => whnf)
          have hcc : (s).config = c := k4
          have hnp := (k2).npaths
          rw [hcc] at hnp
          ((refine hcall_pure ?_; (conv => whnf); refine ⟨_, spec_pump s (k2).pf (by rw [hcc]; unfold inI; omega) (by omega), rfl, ?_⟩; conv => whnf); try (refine hcut.go ?_; conv => whnf))
          have hk2 := pump_ki k3 k2
          have hs2 := pump_si k2
          have hc2 := pump_cfg (k2)
          generalize (pump s).1 = t at hk2 hs2 hc2 ⊢
          have hlen := hk2.len
          try simp only [List.length_append, List.length_singleton] at hlen
          refine hif_false (by simp; omega) ?_; conv => whnf
          repeat (refine hcut.go ?_; conv => whnf)
          refine ⟨{ w : List Int × List Int // t.fates = w.1 ++ w.2 }, fun | ⟨(A, B), _⟩ => hs 102 [(5, .ptr 5 0), (7, .own 900), (29, .p (.sl 7 (l.map Step.row))), (30, i64 l.length), (31, i64 a.length), (75, ints t.fates), (76, i64 t.fates.length), (77, i64 A.length)] [(5, sndL t), (900, rowM L)], fun w => w.1.2.length, ⟨([], t.fates), rfl⟩, ?_, ?_⟩
          · exact (hle_Q [(5, some 5), (900, some 900)] (by repeat' (first | exact trivial | exact rfl | (refine ⟨⟨rfl, ?_⟩, ?_⟩) | (refine ⟨rfl, ?_⟩) | ((exact row_app (f := Message.row) rfl rfl)) | (simp; done) | (simp; rfl))) (by repeat' (first | exact trivial | exact rfl | exact .inl rfl | exact .inr rfl | (refine ⟨⟨rfl, .inl ⟨_, rfl, ?_⟩⟩, ?_⟩) | (refine ⟨⟨rfl, _, rfl, ?_⟩, ?_⟩) | (refine ⟨⟨rfl, .inr ⟨rfl, ?_⟩⟩, ?_⟩) | (refine ⟨rfl, ?_⟩) | ((exact row_app (f := Message.row) rfl rfl)) | (simp; done) | (simp; rfl))))
          rintro ⟨⟨A, B⟩, g⟩
          dsimp only at g
          refine hwp_gen fun Q2 hQ2 => ?_
          cases B with
          | nil =>
            have gz := zip_nil g
            conv => whnf
            ((refine hif_F ?_; conv => whnf); try (refine hcut.go ?_; conv => whnf))
            refine hQ2 _ _ ?_; conv => whnf
            ((refine hwrap_F ?_; conv => whnf); try (refine hcut.go ?_; conv => whnf))
            refine hQ _ _ ?_; conv => whnf
            exact ⟨⟨(t, L, a ++ [y], b), zip_next k1, hs2.mono (by simp) (by simp; omega), hk2, by rw [hc2]; exact hcc⟩, (hle_Q [(5, some 5), (900, some 900)]), by simp⟩
          | cons f B =>
            have gz := zip_cons g
            have hf : t.fates[A.length]? = some f := by rw [g]; simp
            obtain ⟨m, hm⟩ : ∃ m, (L)[A.length]? = some m := ⟨_, List.getElem?_eq_getElem (by rw [← hk2.len]; omega)⟩
            have hml := (List.getElem?_eq_some_iff.1 hm).1
            conv => whnf
            ((refine hif_T ?_; conv => whnf); try (refine hcut.go ?_; conv => whnf))
            refine hrow_mid (f := fun n : Int => [pi n]) g rfl ?_; conv => whnf
            by_cases d1 : f = 3
            case neg =>
              rw [show (f == 3) = false from beq_eq_false_iff_ne.2 d1]
              conv => whnf
              repeat (refine hcut.go ?_; conv => whnf)
              ((refine hwrap_F ?_; conv => whnf); try (refine hcut.go ?_; conv => whnf))
              refine hQ2 _ _ ?_; conv => whnf
              exact ⟨⟨(A ++ [f], B), zip_next g⟩, (hle_Q [(5, some 5), (900, some 900)]), by simp⟩
            case pos =>
              subst d1
              have hl := hk2.gone A.length hf m hm
              refine hif_true rfl ?_; conv => whnf
              refine hobl_intro ⟨by omega, by rw [List.length_map]; omega⟩ ?_; conv => whnf
              refine hrow_q hm rfl ?_; conv => whnf
              by_cases d2 : m.life = 0
              case neg =>
                rw [show (m.life == 0) = false from beq_eq_false_iff_ne.2 d2]
                conv => whnf
                repeat (refine hcut.go ?_; conv => whnf)
                ((refine hwrap_F ?_; conv => whnf); try (refine hcut.go ?_; conv => whnf))
                refine hQ2 _ _ ?_; conv => whnf
                exact ⟨⟨(A ++ [3], B), zip_next g⟩, (hle_Q [(5, some 5), (900, some 900)]), by simp⟩
              case pos =>
                rw [show (m.life == 0) = true from beq_iff_eq.2 d2]
                refine hif_true rfl ?_; conv => whnf
                refine hobl_intro ⟨by omega, by rw [List.length_map]; omega⟩ ?_; conv => whnf
                refine hrow_q hm rfl ?_; conv => whnf
                rw [show (m.tries == 0) = false from beq_eq_false_iff_ne.2 (by omega)]
                conv => whnf
                repeat (refine hcut.go ?_; conv => whnf)
                ((refine hwrap_F ?_; conv => whnf); try (refine hcut.go ?_; conv => whnf))
                refine hQ2 _ _ ?_; conv => whnf
                exact ⟨⟨(A ++ [3], B), zip_next g⟩, (hle_Q [(5, some 5), (900, some 900)]), by simp⟩
      case neg =>
        refine hif_false (by simpa using c3) ?_; conv => whnf
        repeat (refine hcut.go ?_; conv => whnf)
        by_cases c4 : y.kind = 5
        case pos =>
          rw [show (y.kind == 5) = true from beq_iff_eq.2 c4]
          conv => whnf
          ((refine hcall_pure ?_; (conv => whnf); refine ⟨_, spec_tick s k2.fit, rfl, ?_⟩; conv => whnf); try (refine hcut.go ?_; conv => whnf))
          repeat (refine hcut.go ?_; conv => whnf)
          have hcc : ((tick s)).config = c := ((tick_cfg s).trans k4)
          have hnp := ((tick_si k2)).npaths
          rw [hcc] at hnp
          ((refine hcall_pure ?_; (conv => whnf); refine ⟨_, spec_pump (tick s) ((tick_si k2)).pf (by rw [hcc]; unfold inI; omega) (by omega), rfl, ?_⟩; conv => whnf); try (refine hcut.go ?_; conv => whnf))
          have hk2 := pump_ki (tick_ki k3) (tick_si k2)
          have hs2 := pump_si (tick_si k2)
          have hc2 := pump_cfg ((tick_si k2))
          generalize (pump (tick s)).1 = t at hk2 hs2 hc2 ⊢
          have hlen := hk2.len
          try simp only [List.length_append, List.length_singleton] at hlen
          refine hif_false (by simp; omega) ?_; conv => whnf
          repeat (refine hcut.go ?_; conv => whnf)
          refine ⟨{ w : List Int × List Int // t.fates = w.1 ++ w.2 }, fun | ⟨(A, B), _⟩ => hs 102 [(5, .ptr 5 0), (7, .own 900), (29, .p (.sl 7 (l.map Step.row))), (30, i64 l.length), (31, i64 a.length), (75, ints t.fates), (76, i64 t.fates.length), (77, i64 A.length)] [(5, sndL t), (900, rowM L)], fun w => w.1.2.length, ⟨([], t.fates), rfl⟩, ?_, ?_⟩
          · exact (hle_Q [(5, some 5), (900, some 900)] (by repeat' (first | exact trivial | exact rfl | (refine ⟨⟨rfl, ?_⟩, ?_⟩) | (refine ⟨rfl, ?_⟩) | ((exact row_app (f := Message.row) rfl rfl)) | (simp; done) | (simp; rfl))) (by repeat' (first | exact trivial | exact rfl | exact .inl rfl | exact .inr rfl | (refine ⟨⟨rfl, .inl ⟨_, rfl, ?_⟩⟩, ?_⟩) | (refine ⟨⟨rfl, _, rfl, ?_⟩, ?_⟩) | (refine ⟨⟨rfl, .inr ⟨rfl, ?_⟩⟩, ?_⟩) | (refine ⟨rfl, ?_⟩) | ((exact row_app (f := Message.row) rfl rfl)) | (simp; done) | (simp; rfl))))
          rintro ⟨⟨A, B⟩, g⟩
          dsimp only at g
          refine hwp_gen fun Q2 hQ2 => ?_
          cases B with
          | nil =>
            have gz := zip_nil g
            conv => whnf
            ((refine hif_F ?_; conv => whnf); try (refine hcut.go ?_; conv => whnf))
            refine hQ2 _ _ ?_; conv => whnf
            ((refine hwrap_F ?_; conv => whnf); try (refine hcut.go ?_; conv => whnf))
            refine hQ _ _ ?_; conv => whnf
            exact ⟨⟨(t, L, a ++ [y], b), zip_next k1, hs2.mono (by simp) (by simp; omega), hk2, by rw [hc2]; exact hcc⟩, (hle_Q [(5, some 5), (900, some 900)]), by simp⟩
          | cons f B =>
            have gz := zip_cons g
            have hf : t.fates[A.length]? = some f := by rw [g]; simp
            obtain ⟨m, hm⟩ : ∃ m, (L)[A.length]? = some m := ⟨_, List.getElem?_eq_getElem (by rw [← hk2.len]; omega)⟩
            have hml := (List.getElem?_eq_some_iff.1 hm).1
            conv => whnf
            ((refine hif_T ?_; conv => whnf); try (refine hcut.go ?_; conv => whnf))
            refine hrow_mid (f := fun n : Int => [pi n]) g rfl ?_; conv => whnf
            by_cases d1 : f = 3
            case neg =>
              rw [show (f == 3) = false from beq_eq_false_iff_ne.2 d1]
              conv => whnf
              repeat (refine hcut.go ?_; conv => whnf)
              ((refine hwrap_F ?_; conv => whnf); try (refine hcut.go ?_; conv => whnf))
              refine hQ2 _ _ ?_; conv => whnf
              exact ⟨⟨(A ++ [f], B), zip_next g⟩, (hle_Q [(5, some 5), (900, some 900)]), by simp⟩
            case pos =>
              subst d1
              have hl := hk2.gone A.length hf m hm
              refine hif_true rfl ?_; conv => whnf
              refine hobl_intro ⟨by omega, by rw [List.length_map]; omega⟩ ?_; conv => whnf
              refine hrow_q hm rfl ?_; conv => whnf
              by_cases d2 : m.life = 0
              case neg =>
                rw [show (m.life == 0) = false from beq_eq_false_iff_ne.2 d2]
                conv => whnf
                repeat (refine hcut.go ?_; conv => whnf)
                ((refine hwrap_F ?_; conv => whnf); try (refine hcut.go ?_; conv => whnf))
                refine hQ2 _ _ ?_; conv => whnf
                exact ⟨⟨(A ++ [3], B), zip_next g⟩, (hle_Q [(5, some 5), (900, some 900)]), by simp⟩
              case pos =>
                rw [show (m.life == 0) = true from beq_iff_eq.2 d2]
                refine hif_true rfl ?_; conv => whnf
                refine hobl_intro ⟨by omega, by rw [List.length_map]; omega⟩ ?_; conv => whnf
                refine hrow_q hm rfl ?_; conv => whnf
                rw [show (m.tries == 0) = false from beq_eq_false_iff_ne.2 (by omega)]
                conv => whnf
                repeat (refine hcut.go ?_; conv => whnf)
                ((refine hwrap_F ?_; conv => whnf); try (refine hcut.go ?_; conv => whnf))
                refine hQ2 _ _ ?_; conv => whnf
                exact ⟨⟨(A ++ [3], B), zip_next g⟩, (hle_Q [(5, some 5), (900, some 900)]), by simp⟩
        case neg =>
          rw [show (y.kind == 5) = false from beq_eq_false_iff_ne.2 c4]
          conv => whnf
          repeat (refine hcut.go ?_; conv => whnf)
          have hcc : (s).config = c := k4
          have hnp := (k2).npaths
          rw [hcc] at hnp
          ((refine hcall_pure ?_; (conv => whnf); refine ⟨_, spec_pump s (k2).pf (by rw [hcc]; unfold inI; omega) (by omega), rfl, ?_⟩; conv => whnf); try (refine hcut.go ?_; conv => whnf))
          have hk2 := pump_ki k3 k2
          have hs2 := pump_si k2
          have hc2 := pump_cfg (k2)
          generalize (pump s).1 = t at hk2 hs2 hc2 ⊢
          have hlen := hk2.len
          try simp only [List.length_append, List.length_singleton] at hlen
          refine hif_false (by simp; omega) ?_; conv => whnf
          repeat (refine hcut.go ?_; conv => whnf)
          refine ⟨{ w : List Int × List Int // t.fates = w.1 ++ w.2 }, fun | ⟨(A, B), _⟩ => hs 102 [(5, .ptr 5 0), (7, .own 900), (29, .p (.sl 7 (l.map Step.row))), (30, i64 l.length), (31, i64 a.length), (75, ints t.fates), (76, i64 t.fates.length), (77, i64 A.length)] [(5, sndL t), (900, rowM L)], fun w => w.1.2.length, ⟨([], t.fates), rfl⟩, ?_, ?_⟩
          · exact (hle_Q [(5, some 5), (900, some 900)] (by repeat' (first | exact trivial | exact rfl | (refine ⟨⟨rfl, ?_⟩, ?_⟩) | (refine ⟨rfl, ?_⟩) | ((exact row_app (f := Message.row) rfl rfl)) | (simp; done) | (simp; rfl))) (by repeat' (first | exact trivial | exact rfl | exact .inl rfl | exact .inr rfl | (refine ⟨⟨rfl, .inl ⟨_, rfl, ?_⟩⟩, ?_⟩) | (refine ⟨⟨rfl, _, rfl, ?_⟩, ?_⟩) | (refine ⟨⟨rfl, .inr ⟨rfl, ?_⟩⟩, ?_⟩) | (refine ⟨rfl, ?_⟩) | ((exact row_app (f := Message.row) rfl rfl)) | (simp; done) | (simp; rfl))))
          rintro ⟨⟨A, B⟩, g⟩
          dsimp only at g
          refine hwp_gen fun Q2 hQ2 => ?_
          cases B with
          | nil =>
            have gz := zip_nil g
            conv => whnf
            ((refine hif_F ?_; conv => whnf); try (refine hcut.go ?_; conv => whnf))
            refine hQ2 _ _ ?_; conv => whnf
            ((refine hwrap_F ?_; conv => whnf); try (refine hcut.go ?_; conv => whnf))
            refine hQ _ _ ?_; conv => whnf
            exact ⟨⟨(t, L, a ++ [y], b), zip_next k1, hs2.mono (by simp) (by simp; omega), hk2, by rw [hc2]; exact hcc⟩, (hle_Q [(5, some 5), (900, some 900)]), by simp⟩
          | cons f B =>
            have gz := zip_cons g
            have hf : t.fates[A.length]? = some f := by rw [g]; simp
            obtain ⟨m, hm⟩ : ∃ m, (L)[A.length]? = some m := ⟨_, List.getElem?_eq_getElem (by rw [← hk2.len]; omega)⟩
            have hml := (List.getElem?_eq_some_iff.1 hm).1
            conv => whnf
            ((refine hif_T ?_; conv => whnf); try (refine hcut.go ?_; conv => whnf))
            refine hrow_mid (f := fun n : Int => [pi n]) g rfl ?_; conv => whnf
            by_cases d1 : f = 3
            case neg =>
              rw [show (f == 3) = false from beq_eq_false_iff_ne.2 d1]
              conv => whnf
              repeat (refine hcut.go ?_; conv => whnf)
              ((refine hwrap_F ?_; conv => whnf); try (refine hcut.go ?_; conv => whnf))
              refine hQ2 _ _ ?_; conv => whnf
              exact ⟨⟨(A ++ [f], B), zip_next g⟩, (hle_Q [(5, some 5), (900, some 900)]), by simp⟩
            case pos =>
              subst d1
              have hl := hk2.gone A.length hf m hm
              refine hif_true rfl ?_; conv => whnf
              refine hobl_intro ⟨by omega, by rw [List.length_map]; omega⟩ ?_; conv => whnf
              refine hrow_q hm rfl ?_; conv => whnf
              by_cases d2 : m.life = 0
              case neg =>
                rw [show (m.life == 0) = false from beq_eq_false_iff_ne.2 d2]
                conv => whnf
                repeat (refine hcut.go ?_; conv => whnf)
                ((refine hwrap_F ?_; conv => whnf); try (refine hcut.go ?_; conv => whnf))
                refine hQ2 _ _ ?_; conv => whnf
                exact ⟨⟨(A ++ [3], B), zip_next g⟩, (hle_Q [(5, some 5), (900, some 900)]), by simp⟩
              case pos =>
                rw [show (m.life == 0) = true from beq_iff_eq.2 d2]
                refine hif_true rfl ?_; conv => whnf
                refine hobl_intro ⟨by omega, by rw [List.length_map]; omega⟩ ?_; conv => whnf
                refine hrow_q hm rfl ?_; conv => whnf
                rw [show (m.tries == 0) = false from beq_eq_false_iff_ne.2 (by omega)]
                conv => whnf
                repeat (refine hcut.go ?_; conv => whnf)
                ((refine hwrap_F ?_; conv => whnf); try (refine hcut.go ?_; conv => whnf))
                refine hQ2 _ _ ?_; conv => whnf
                exact ⟨⟨(A ++ [3], B), zip_next g⟩, (hle_Q [(5, some 5), (900, some 900)]), by simp⟩
end Snd
end Go.HL
