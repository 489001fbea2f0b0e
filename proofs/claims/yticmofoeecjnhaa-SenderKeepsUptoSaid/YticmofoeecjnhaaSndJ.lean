/- The sender: chunks in packets. -/
import Derived.Test.YticmofoeecjnhaaSndG
namespace Go.HL
open Go.Proofs
namespace Snd
open Ser
set_option maxHeartbeats 8000000
set_option maxRecDepth 100000
set_option linter.unusedSimpArgs false
abbrev rowPk (l : List Packet) : HSlot := .live (.row 162 3 (l.map Packet.row))
abbrev roK (l : List Chunk) : HSlot := .ro (.row 29 11 (l.map Chunk.row))
def wndK (id : Nat) : List Chunk → List Chunk → HV
  | [], _ => .own id
  | _ :: a, b => .osl id 11 (a.length + 1) b.length
theorem hsub_w {α : Type} {f : α → List PV} {l a b c : List α} {o n : Nat} {K : List (List PV) → Prop} (h : l = a ++ b ++ c) (ho : o = a.length) (hn : n = b.length) (hk : K (b.map f)) : hsub (l.map f) o n K := by
  subst h ho hn
  refine ⟨_, rfl, by simp, ?_⟩
  rwa [← List.map_drop, ← List.map_take, List.append_assoc, List.drop_left, List.take_left]
theorem osl_eqK {i s o o' n n' : Nat} (ho : o = o') (hn : n = n') : HV.osl i s o n = .osl i s o' n' := by rw [ho, hn]
theorem room_is {most : Int} {l : List Chunk} (h : l ≠ []) : ∃ k : Nat, room1 most l = k ∧ 1 ≤ k ∧ k ≤ l.length := by
  obtain ⟨r, h1, h2, -⟩ := Pck.fit_all l most
  have h3 := List.length_pos_iff.2 h
  have h4 := h2.1
  unfold room1
  rw [h1]
  split
  · exact ⟨1, rfl, by omega, by omega⟩
  · exact ⟨r, rfl, by omega, by omega⟩
theorem packN_nil (most path : Int) (n : Nat) : packN most path n [] = [] := by cases n <;> simp [packN]
def Okc (c : Chunk) : Prop := c.spans.length < 2 ^ 38 ∧ c.skips.length < 2 ^ 38
abbrev pE1 (s : Sender) (ps : List Packet) : List (Nat × HSlot) := (1000000, .live (.cells 120 (pmpC s (.own 1000001) (.own 1000002) (.own 1000003) (.own 1000004) (.own 1000005) (.own 1000006) (.own 1000007)))) :: sndB s 1000001 1000002 1000003 1000004 1000005 1000006 [(1000007, .dead), (1000008, .dead), (0, rowPk ps)]
abbrev pR1 (s : Sender) (a : List Chunk) (L : List (Nat × HSlot)) : List (Nat × HSlot) := (1000000, .live (.cells 120 (pmpC s (.own 1000001) (.own 1000002) (.own 1000003) (.own 1000004) (.own 1000005) (.own 1000006) (.own 1000007)))) :: sndB s 1000001 1000002 1000003 1000004 1000005 1000006 ((1000007, .live (.cells 24 [.own 1000008])) :: (1000008, roK a) :: L)
abbrev pE2 (s : Sender) (ps : List Packet) : List (Nat × HSlot) := (1000000, .live (.cells 120 (pmpC s (.own 1000001) (.own 1000002) (.own 1000003) (.own 1000004) (.own 1000005) (.own 1000006) (.own 1000007)))) :: sndB s 1000001 1000002 1000003 1000004 1000005 1000006 [(1000007, .dead), (1000008, .dead), (1000009, .dead), (0, rowPk ps)]
abbrev pR2 (s : Sender) (a b : List Chunk) (L : List (Nat × HSlot)) : List (Nat × HSlot) := (1000000, .live (.cells 120 (pmpC s (.own 1000001) (.own 1000002) (.own 1000003) (.own 1000004) (.own 1000005) (.own 1000006) (.own 1000007)))) :: sndB s 1000001 1000002 1000003 1000004 1000005 1000006 ((1000007, .live (.cells 24 [.own 1000008, .own 1000009])) :: (1000008, roK a) :: (1000009, roK b) :: L)
theorem spec_packets1 (s : Sender) (a : List Chunk) (hm : inI s.config.packet) (ha : a.length < 2 ^ 29) (hka : ∀ c ∈ a, Okc c) : FunOK Try.prog 63 [.ptr 1000000 0] (lk .free (pH1 s a)) (.own 0) (lk .free (pE1 s (packFrom s.config.packet 0 [a]))) := by
  generalize hT : packFrom s.config.packet 0 [a] = T
  refine funOK_of mixed Try.func63 (by decide) [1000000, 1000001, 1000002, 1000003, 1000004, 1000005, 1000006, 1000007, 1000008] lk_pins ?_
  conv => whnf
  refine ⟨{ x : Nat × List Packet // x.1 ≤ 1 ∧ x.2.length ≤ x.1 * 2 ^ 29 ∧ x.2 ++ packFrom s.config.packet x.1 ([a].drop x.1) = T },
    fun | ⟨(i, acc), _⟩ => hsP [1000000, 1000001, 1000002, 1000003, 1000004, 1000005, 1000006, 1000007, 1000008] 57 [(0, .ptr 1000000 0), (3, .own 900), (12, .own 1000007), (13, i64 1), (14, i64 i)] (pR1 s a [(900, rowPk acc)]), fun x => 1 - x.1.1, ⟨(0, []), by dsimp only; omega, by simp, hT⟩, ?_, ?_⟩
  · exact (hle_P [(1000000, some 1000000), (1000001, some 1000001), (1000002, some 1000002), (1000003, some 1000003), (1000004, some 1000004), (1000005, some 1000005), (1000006, some 1000006), (1000007, some 1000007), (1000008, some 1000008), (900, none)])
  rintro ⟨⟨i, acc⟩, k1, k3, k2⟩
  dsimp only at k1 k2 k3
  refine hwp_gen fun Q hQ => ?_
  have hi : i = 0 ∨ i = 1 := by omega
  rcases hi with rfl | rfl
  case inl =>
    have hdr : packFrom s.config.packet 0 ([a].drop 0) = packN s.config.packet 0 a.length a ++ packFrom s.config.packet (0 + 1) ([a].drop (0 + 1)) := rfl
    rw [hdr] at k2
    conv => whnf
    refine ⟨0, rfl, by decide, ?_⟩; conv => whnf
    refine ⟨{ x : (List Chunk × List Chunk) × Nat × List Packet // a = x.1.1 ++ x.1.2 ∧ x.1.2.length ≤ x.2.1 ∧ x.2.2.length + x.1.2.length ≤ (0 + 1) * 2 ^ 29 ∧ x.2.2 ++ (packN s.config.packet 0 x.2.1 x.1.2 ++ packFrom s.config.packet (0 + 1) ([a].drop (0 + 1))) = T },
      fun | ⟨((A, B), n, acc), _⟩ => hsP [1000000, 1000001, 1000002, 1000003, 1000004, 1000005, 1000006, 1000007, 1000008] 57 [(0, .ptr 1000000 0), (3, .own 900), (4, i64 0), (5, wndK 1000008 A B), (12, .own 1000007), (13, i64 1), (14, i64 0)] (pR1 s a [(900, rowPk acc)]), fun x => x.1.1.2.length, ⟨(([], a), a.length, acc), rfl, by simp, by dsimp only; omega, k2⟩, ?_, ?_⟩
    · exact (hle_P [(1000000, some 1000000), (1000001, some 1000001), (1000002, some 1000002), (1000003, some 1000003), (1000004, some 1000004), (1000005, some 1000005), (1000006, some 1000006), (1000007, some 1000007), (1000008, some 1000008), (900, some 900)])
    rintro ⟨⟨⟨A, B⟩, n, acc⟩, i1, i2, i4, i3⟩
    dsimp only at i1 i2 i3 i4
    refine hwp_gen fun Q2 hQ2 => ?_
    have hz : a.length = A.length + B.length := by rw [i1]; simp
    have hko : ∀ c ∈ a, Okc c := hka
    by_cases hB : B = []
    case pos =>
      subst hB
      rw [packN_nil, List.nil_append] at i3
      rw [List.length_nil] at hz
      cases A with
      | nil =>
        conv => whnf
        have ha0 : a = [] := List.eq_nil_of_length_eq_zero (by simp at hz; simp [hz])
        refine hif_false ?_ ?_
        · simp [ha0]
        conv => whnf
        repeat (refine hcut.go ?_; conv => whnf)
        refine hQ2 _ _ ?_; conv => whnf
        ((refine hwrap_F ?_; conv => whnf); try (refine hcut.go ?_; conv => whnf))
        refine hQ _ _ ?_; conv => whnf
        exact ⟨⟨(0 + 1, acc), by dsimp only; omega, by dsimp only; rw [List.length_nil] at i4; omega, i3⟩, (hle_P [(1000000, some 1000000), (1000001, some 1000001), (1000002, some 1000002), (1000003, some 1000003), (1000004, some 1000004), (1000005, some 1000005), (1000006, some 1000006), (1000007, some 1000007), (1000008, some 1000008), (900, some 900)]), by dsimp only; omega⟩
      | cons t A =>
        conv => whnf
        repeat (refine hcut.go ?_; conv => whnf)
        refine hQ2 _ _ ?_; conv => whnf
        ((refine hwrap_F ?_; conv => whnf); try (refine hcut.go ?_; conv => whnf))
        refine hQ _ _ ?_; conv => whnf
        exact ⟨⟨(0 + 1, acc), by dsimp only; omega, by dsimp only; rw [List.length_nil] at i4; omega, i3⟩, (hle_P [(1000000, some 1000000), (1000001, some 1000001), (1000002, some 1000002), (1000003, some 1000003), (1000004, some 1000004), (1000005, some 1000005), (1000006, some 1000006), (1000007, some 1000007), (1000008, some 1000008), (900, some 900)]), by dsimp only; omega⟩
    case neg =>
    obtain ⟨r, r1, r2, r3⟩ := room_is (most := s.config.packet) hB
    have hBl := List.length_pos_iff.2 hB
    obtain ⟨n, rfl⟩ : ∃ n', n = n' + 1 := ⟨n - 1, by omega⟩
    have hN : packN s.config.packet 0 (n + 1) B = pack1 s.config.packet 0 B ++ packN s.config.packet 0 n (B.drop r) := by rw [packN, if_neg hB, r1, Int.toNat_natCast]
    have hP : pack1 s.config.packet 0 B = if (Pck.pbytes (B.take r) s.config.packet).2 = 0 then [⟨0, false, (Pck.pbytes (B.take r) s.config.packet).1⟩] else [] := by rw [pack1, r1, Int.toNat_natCast]
    have hsz : Pck.Sized B := ⟨by omega, fun c hc => hko c (by rw [i1]; exact List.mem_append_right _ hc)⟩
    have hszr : Pck.Sized (B.take r) := hsz.take r
    rw [hN, List.append_assoc] at i3
    cases A with
    | nil =>
      have i1' : B = a := i1.symm
      subst i1'
      conv => whnf
      ((refine hif_T ?_; conv => whnf); try (refine hcut.go ?_; conv => whnf))
      repeat (refine hcut.go ?_; conv => whnf)
      ((refine hcall_lend ?_; (conv => whnf); refine ⟨_, Pck.spec_fit B s.config.packet hsz hm, rfl, ?_⟩; conv => whnf); try (refine hcut.go ?_; conv => whnf))
      refine hobl_intro (c := (0 : Int) ≤ 0 ∧ (0 : Int) ≤ room1 s.config.packet B ∧ room1 s.config.packet B ≤ ((B.map Chunk.row).length : Int)) ⟨by omega, by omega, by rw [List.length_map]; omega⟩ ?_; conv => whnf
      refine hcall_pure ?_; conv => whnf
      refine hsub_w (a := []) (b := B.take r) (c := B.drop r) (by simp) rfl (show (room1 s.config.packet B - 0).toNat = _ by rw [r1]; simp; omega) ?_
      conv => whnf
      refine ⟨_, Pck.spec_pbytes (B.take r) s.config.packet hszr, rfl, ?_⟩; conv => whnf
      ((refine hdraw_intro ?_ ?_; (· kernel_rfl); conv => whnf); try (refine hcut.go ?_; conv => whnf))
      by_cases ho : (Pck.pbytes (B.take r) s.config.packet).2 = 0
      case pos =>
        rw [if_pos ho] at hP
        refine hif_true ?_ ?_
        · simpa using ho
        conv => whnf
        refine hobl_intro (c := ((acc.map Packet.row).length + 1) * 40 ≤ 140737488355328) (by rw [List.length_map]; omega) ?_; conv => whnf
        repeat (refine hcut.go ?_; conv => whnf)
        refine hobl_intro (c := (0 : Int) ≤ room1 s.config.packet B ∧ room1 s.config.packet B ≤ ((B.map Chunk.row).length : Int) ∧ ((B.map Chunk.row).length : Int) ≤ ((B.map Chunk.row).length : Int)) ⟨by omega, by rw [List.length_map]; omega, by omega⟩ ?_; conv => whnf
        obtain ⟨x, B1, hx⟩ : ∃ x B1, B.take r = x :: B1 := by
          cases hq : B.take r with
          | nil => rw [List.take_eq_nil_iff] at hq; rcases hq with hq | hq; omega; exact absurd hq hB
          | cons x B1 => exact ⟨x, B1, rfl⟩
        have hxl : B1.length + 1 = r := by have := congrArg List.length hx; simp at this; omega
        refine hQ2 _ _ ?_; conv => whnf
        exact ⟨⟨((x :: B1, B.drop r), n, acc ++ [⟨0, false, (Pck.pbytes (B.take r) s.config.packet).1⟩]), by rw [← hx, List.take_append_drop], by simp; omega, by simp; omega, by rw [← i3, hP]; simp⟩, (hle_P [(1000000, some 1000000), (1000001, some 1000001), (1000002, some 1000002), (1000003, some 1000003), (1000004, some 1000004), (1000005, some 1000005), (1000006, some 1000006), (1000007, some 1000007), (1000008, some 1000008), (900, some 51)] (by repeat' (first | exact trivial | exact rfl | (refine ⟨⟨rfl, ?_⟩, ?_⟩) | (refine ⟨rfl, ?_⟩) | ((exact osl_eqK (show B1.length + 1 = (room1 s.config.packet B).toNat by omega) (show (B.drop r).length = (((B.map Chunk.row).length : Int) - room1 s.config.packet B).toNat by simp; omega))) | ((exact row_app (f := Packet.row) rfl rfl)) | (simp; done) | (simp; rfl))) (by repeat' (first | exact trivial | exact rfl | exact .inl rfl | exact .inr rfl | (refine ⟨⟨rfl, .inl ⟨_, rfl, ?_⟩⟩, ?_⟩) | (refine ⟨⟨rfl, _, rfl, ?_⟩, ?_⟩) | (refine ⟨⟨rfl, .inr ⟨rfl, ?_⟩⟩, ?_⟩) | (refine ⟨rfl, ?_⟩) | ((exact osl_eqK (show B1.length + 1 = (room1 s.config.packet B).toNat by omega) (show (B.drop r).length = (((B.map Chunk.row).length : Int) - room1 s.config.packet B).toNat by simp; omega))) | ((exact row_app (f := Packet.row) rfl rfl)) | (simp; done) | (simp; rfl)))), by simp; omega⟩
      case neg =>
        rw [if_neg ho] at hP
        refine hif_false ?_ ?_
        · simpa using ho
        conv => whnf
        repeat (refine hcut.go ?_; conv => whnf)
        refine hobl_intro (c := (0 : Int) ≤ room1 s.config.packet B ∧ room1 s.config.packet B ≤ ((B.map Chunk.row).length : Int) ∧ ((B.map Chunk.row).length : Int) ≤ ((B.map Chunk.row).length : Int)) ⟨by omega, by rw [List.length_map]; omega, by omega⟩ ?_; conv => whnf
        obtain ⟨x, B1, hx⟩ : ∃ x B1, B.take r = x :: B1 := by
          cases hq : B.take r with
          | nil => rw [List.take_eq_nil_iff] at hq; rcases hq with hq | hq; omega; exact absurd hq hB
          | cons x B1 => exact ⟨x, B1, rfl⟩
        have hxl : B1.length + 1 = r := by have := congrArg List.length hx; simp at this; omega
        refine hQ2 _ _ ?_; conv => whnf
        exact ⟨⟨((x :: B1, B.drop r), n, acc), by rw [← hx, List.take_append_drop], by simp; omega, by simp; omega, by rw [← i3, hP]; simp⟩, (hle_P [(1000000, some 1000000), (1000001, some 1000001), (1000002, some 1000002), (1000003, some 1000003), (1000004, some 1000004), (1000005, some 1000005), (1000006, some 1000006), (1000007, some 1000007), (1000008, some 1000008), (900, some 900)] (by repeat' (first | exact trivial | exact rfl | (refine ⟨⟨rfl, ?_⟩, ?_⟩) | (refine ⟨rfl, ?_⟩) | ((exact osl_eqK (show B1.length + 1 = (room1 s.config.packet B).toNat by omega) (show (B.drop r).length = (((B.map Chunk.row).length : Int) - room1 s.config.packet B).toNat by simp; omega))) | ((exact row_app (f := Packet.row) rfl rfl)) | (simp; done) | (simp; rfl))) (by repeat' (first | exact trivial | exact rfl | exact .inl rfl | exact .inr rfl | (refine ⟨⟨rfl, .inl ⟨_, rfl, ?_⟩⟩, ?_⟩) | (refine ⟨⟨rfl, _, rfl, ?_⟩, ?_⟩) | (refine ⟨⟨rfl, .inr ⟨rfl, ?_⟩⟩, ?_⟩) | (refine ⟨rfl, ?_⟩) | ((exact osl_eqK (show B1.length + 1 = (room1 s.config.packet B).toNat by omega) (show (B.drop r).length = (((B.map Chunk.row).length : Int) - room1 s.config.packet B).toNat by simp; omega))) | ((exact row_app (f := Packet.row) rfl rfl)) | (simp; done) | (simp; rfl)))), by simp; omega⟩
    | cons t A =>
      have hal : (A.length : Int) + 1 = ((t :: A).length : Nat) := by simp
      conv => whnf
      ((refine hif_T ?_; conv => whnf); try (refine hcut.go ?_; conv => whnf))
      repeat (refine hcut.go ?_; conv => whnf)
      refine hcall_lend ?_; conv => whnf
      refine hsub_w (a := t :: A) (b := B) (c := []) (by rw [i1]; simp) rfl rfl ?_
      conv => whnf
      refine ⟨_, Pck.spec_fit B s.config.packet hsz hm, rfl, ?_⟩; conv => whnf
      repeat (refine hcut.go ?_; conv => whnf)
      refine hobl_intro (c := (0 : Int) ≤ room1 s.config.packet B ∧ ((A.length + 1 : Nat) : Int) + room1 s.config.packet B ≤ ((a.map Chunk.row).length : Int)) ⟨by omega, by rw [List.length_map, hz, List.length_cons]; omega⟩ ?_; conv => whnf
      refine hcall_pure ?_; conv => whnf
      refine hsub_w (a := t :: A) (b := B.take r) (c := B.drop r) (by rw [i1]; simp) rfl (show (room1 s.config.packet B).toNat = _ by rw [r1]; simp; omega) ?_
      conv => whnf
      refine ⟨_, Pck.spec_pbytes (B.take r) s.config.packet hszr, rfl, ?_⟩; conv => whnf
      ((refine hdraw_intro ?_ ?_; (· kernel_rfl); conv => whnf); try (refine hcut.go ?_; conv => whnf))
      by_cases ho : (Pck.pbytes (B.take r) s.config.packet).2 = 0
      case pos =>
        rw [if_pos ho] at hP
        refine hif_true ?_ ?_
        · simpa using ho
        conv => whnf
        refine hobl_intro (c := ((acc.map Packet.row).length + 1) * 40 ≤ 140737488355328) (by rw [List.length_map]; omega) ?_; conv => whnf
        repeat (refine hcut.go ?_; conv => whnf)
        refine hobl_intro (c := (0 : Int) ≤ room1 s.config.packet B ∧ room1 s.config.packet B ≤ (B.length : Int) ∧ ((A.length + 1 : Nat) : Int) + (B.length : Int) ≤ ((a.map Chunk.row).length : Int)) ⟨by omega, by omega, by rw [List.length_map, hz, List.length_cons]; omega⟩ ?_; conv => whnf
        refine hQ2 _ _ ?_; conv => whnf
        exact ⟨⟨((t :: (A ++ B.take r), B.drop r), n, acc ++ [⟨0, false, (Pck.pbytes (B.take r) s.config.packet).1⟩]), by rw [i1]; simp, by simp; omega, by simp; omega, by rw [← i3, hP]; simp⟩, (hle_P [(1000000, some 1000000), (1000001, some 1000001), (1000002, some 1000002), (1000003, some 1000003), (1000004, some 1000004), (1000005, some 1000005), (1000006, some 1000006), (1000007, some 1000007), (1000008, some 1000008), (900, some 51)] (by repeat' (first | exact trivial | exact rfl | (refine ⟨⟨rfl, ?_⟩, ?_⟩) | (refine ⟨rfl, ?_⟩) | ((exact osl_eqK (show (A ++ B.take r).length + 1 = A.length + 1 + (room1 s.config.packet B).toNat by simp; omega) (show (B.drop r).length = B.length - (room1 s.config.packet B).toNat by simp; omega))) | ((exact row_app (f := Packet.row) rfl rfl)) | (simp; done) | (simp; rfl))) (by repeat' (first | exact trivial | exact rfl | exact .inl rfl | exact .inr rfl | (refine ⟨⟨rfl, .inl ⟨_, rfl, ?_⟩⟩, ?_⟩) | (refine ⟨⟨rfl, _, rfl, ?_⟩, ?_⟩) | (refine ⟨⟨rfl, .inr ⟨rfl, ?_⟩⟩, ?_⟩) | (refine ⟨rfl, ?_⟩) | ((exact osl_eqK (show (A ++ B.take r).length + 1 = A.length + 1 + (room1 s.config.packet B).toNat by simp; omega) (show (B.drop r).length = B.length - (room1 s.config.packet B).toNat by simp; omega))) | ((exact row_app (f := Packet.row) rfl rfl)) | (simp; done) | (simp; rfl)))), by simp; omega⟩
      case neg =>
        rw [if_neg ho] at hP
        refine hif_false ?_ ?_
        · simpa using ho
        conv => whnf
        repeat (refine hcut.go ?_; conv => whnf)
        refine hobl_intro (c := (0 : Int) ≤ room1 s.config.packet B ∧ room1 s.config.packet B ≤ (B.length : Int) ∧ ((A.length + 1 : Nat) : Int) + (B.length : Int) ≤ ((a.map Chunk.row).length : Int)) ⟨by omega, by omega, by rw [List.length_map, hz, List.length_cons]; omega⟩ ?_; conv => whnf
        refine hQ2 _ _ ?_; conv => whnf
        exact ⟨⟨((t :: (A ++ B.take r), B.drop r), n, acc), by rw [i1]; simp, by simp; omega, by simp; omega, by rw [← i3, hP]; simp⟩, (hle_P [(1000000, some 1000000), (1000001, some 1000001), (1000002, some 1000002), (1000003, some 1000003), (1000004, some 1000004), (1000005, some 1000005), (1000006, some 1000006), (1000007, some 1000007), (1000008, some 1000008), (900, some 900)] (by repeat' (first | exact trivial | exact rfl | (refine ⟨⟨rfl, ?_⟩, ?_⟩) | (refine ⟨rfl, ?_⟩) | ((exact osl_eqK (show (A ++ B.take r).length + 1 = A.length + 1 + (room1 s.config.packet B).toNat by simp; omega) (show (B.drop r).length = B.length - (room1 s.config.packet B).toNat by simp; omega))) | ((exact row_app (f := Packet.row) rfl rfl)) | (simp; done) | (simp; rfl))) (by repeat' (first | exact trivial | exact rfl | exact .inl rfl | exact .inr rfl | (refine ⟨⟨rfl, .inl ⟨_, rfl, ?_⟩⟩, ?_⟩) | (refine ⟨⟨rfl, _, rfl, ?_⟩, ?_⟩) | (refine ⟨⟨rfl, .inr ⟨rfl, ?_⟩⟩, ?_⟩) | (refine ⟨rfl, ?_⟩) | ((exact osl_eqK (show (A ++ B.take r).length + 1 = A.length + 1 + (room1 s.config.packet B).toNat by simp; omega) (show (B.drop r).length = B.length - (room1 s.config.packet B).toNat by simp; omega))) | ((exact row_app (f := Packet.row) rfl rfl)) | (simp; done) | (simp; rfl)))), by simp; omega⟩
  case inr =>
    have k2 : acc = T := by rw [← k2]; simp [packFrom]
    subst k2
    conv => whnf
    refine hQ _ _ ?_; conv => whnf
    (exact hfin_P [(1000000, some 1000000), (1000001, some 1000001), (1000002, some 1000002), (1000003, some 1000003), (1000004, some 1000004), (1000005, some 1000005), (1000006, some 1000006), (1000007, some 1000007), (1000008, some 1000008), (0, some 900)])
theorem spec_packets2 (s : Sender) (a b : List Chunk) (hm : inI s.config.packet) (ha : a.length < 2 ^ 29) (hb : b.length < 2 ^ 29) (hka : ∀ c ∈ a, Okc c) (hkb : ∀ c ∈ b, Okc c) : FunOK Try.prog 63 [.ptr 1000000 0] (lk .free (pH2 s a b)) (.own 0) (lk .free (pE2 s (packFrom s.config.packet 0 [a, b]))) := by
  generalize hT : packFrom s.config.packet 0 [a, b] = T
  refine funOK_of mixed Try.func63 (by decide) [1000000, 1000001, 1000002, 1000003, 1000004, 1000005, 1000006, 1000007, 1000008, 1000009] lk_pins ?_
  conv => whnf
  refine ⟨{ x : Nat × List Packet // x.1 ≤ 2 ∧ x.2.length ≤ x.1 * 2 ^ 29 ∧ x.2 ++ packFrom s.config.packet x.1 ([a, b].drop x.1) = T },
    fun | ⟨(i, acc), _⟩ => hsP [1000000, 1000001, 1000002, 1000003, 1000004, 1000005, 1000006, 1000007, 1000008, 1000009] 57 [(0, .ptr 1000000 0), (3, .own 900), (12, .own 1000007), (13, i64 2), (14, i64 i)] (pR2 s a b [(900, rowPk acc)]), fun x => 2 - x.1.1, ⟨(0, []), by dsimp only; omega, by simp, hT⟩, ?_, ?_⟩
  · exact (hle_P [(1000000, some 1000000), (1000001, some 1000001), (1000002, some 1000002), (1000003, some 1000003), (1000004, some 1000004), (1000005, some 1000005), (1000006, some 1000006), (1000007, some 1000007), (1000008, some 1000008), (1000009, some 1000009), (900, none)])
  rintro ⟨⟨i, acc⟩, k1, k3, k2⟩
  dsimp only at k1 k2 k3
  refine hwp_gen fun Q hQ => ?_
  have hi : i = 0 ∨ i = 1 ∨ i = 2 := by omega
  rcases hi with rfl | rfl | rfl
  case inl =>
    have hdr : packFrom s.config.packet 0 ([a, b].drop 0) = packN s.config.packet 0 a.length a ++ packFrom s.config.packet (0 + 1) ([a, b].drop (0 + 1)) := rfl
    rw [hdr] at k2
    conv => whnf
    refine ⟨0, rfl, by decide, ?_⟩; conv => whnf
    refine ⟨{ x : (List Chunk × List Chunk) × Nat × List Packet // a = x.1.1 ++ x.1.2 ∧ x.1.2.length ≤ x.2.1 ∧ x.2.2.length + x.1.2.length ≤ (0 + 1) * 2 ^ 29 ∧ x.2.2 ++ (packN s.config.packet 0 x.2.1 x.1.2 ++ packFrom s.config.packet (0 + 1) ([a, b].drop (0 + 1))) = T },
      fun | ⟨((A, B), n, acc), _⟩ => hsP [1000000, 1000001, 1000002, 1000003, 1000004, 1000005, 1000006, 1000007, 1000008, 1000009] 57 [(0, .ptr 1000000 0), (3, .own 900), (4, i64 0), (5, wndK 1000008 A B), (12, .own 1000007), (13, i64 2), (14, i64 0)] (pR2 s a b [(900, rowPk acc)]), fun x => x.1.1.2.length, ⟨(([], a), a.length, acc), rfl, by simp, by dsimp only; omega, k2⟩, ?_, ?_⟩
    · exact (hle_P [(1000000, some 1000000), (1000001, some 1000001), (1000002, some 1000002), (1000003, some 1000003), (1000004, some 1000004), (1000005, some 1000005), (1000006, some 1000006), (1000007, some 1000007), (1000008, some 1000008), (1000009, some 1000009), (900, some 900)])
    rintro ⟨⟨⟨A, B⟩, n, acc⟩, i1, i2, i4, i3⟩
    dsimp only at i1 i2 i3 i4
    refine hwp_gen fun Q2 hQ2 => ?_
    have hz : a.length = A.length + B.length := by rw [i1]; simp
    have hko : ∀ c ∈ a, Okc c := hka
    by_cases hB : B = []
    case pos =>
      subst hB
      rw [packN_nil, List.nil_append] at i3
      rw [List.length_nil] at hz
      cases A with
      | nil =>
        conv => whnf
        have ha0 : a = [] := List.eq_nil_of_length_eq_zero (by simp at hz; simp [hz])
        refine hif_false ?_ ?_
        · simp [ha0]
        conv => whnf
        repeat (refine hcut.go ?_; conv => whnf)
        refine hQ2 _ _ ?_; conv => whnf
        ((refine hwrap_F ?_; conv => whnf); try (refine hcut.go ?_; conv => whnf))
        refine hQ _ _ ?_; conv => whnf
        exact ⟨⟨(0 + 1, acc), by dsimp only; omega, by dsimp only; rw [List.length_nil] at i4; omega, i3⟩, (hle_P [(1000000, some 1000000), (1000001, some 1000001), (1000002, some 1000002), (1000003, some 1000003), (1000004, some 1000004), (1000005, some 1000005), (1000006, some 1000006), (1000007, some 1000007), (1000008, some 1000008), (1000009, some 1000009), (900, some 900)]), by dsimp only; omega⟩
      | cons t A =>
        conv => whnf
        repeat (refine hcut.go ?_; conv => whnf)
        refine hQ2 _ _ ?_; conv => whnf
        ((refine hwrap_F ?_; conv => whnf); try (refine hcut.go ?_; conv => whnf))
        refine hQ _ _ ?_; conv => whnf
        exact ⟨⟨(0 + 1, acc), by dsimp only; omega, by dsimp only; rw [List.length_nil] at i4; omega, i3⟩, (hle_P [(1000000, some 1000000), (1000001, some 1000001), (1000002, some 1000002), (1000003, some 1000003), (1000004, some 1000004), (1000005, some 1000005), (1000006, some 1000006), (1000007, some 1000007), (1000008, some 1000008), (1000009, some 1000009), (900, some 900)]), by dsimp only; omega⟩
    case neg =>
    obtain ⟨r, r1, r2, r3⟩ := room_is (most := s.config.packet) hB
    have hBl := List.length_pos_iff.2 hB
    obtain ⟨n, rfl⟩ : ∃ n', n = n' + 1 := ⟨n - 1, by omega⟩
    have hN : packN s.config.packet 0 (n + 1) B = pack1 s.config.packet 0 B ++ packN s.config.packet 0 n (B.drop r) := by rw [packN, if_neg hB, r1, Int.toNat_natCast]
    have hP : pack1 s.config.packet 0 B = if (Pck.pbytes (B.take r) s.config.packet).2 = 0 then [⟨0, false, (Pck.pbytes (B.take r) s.config.packet).1⟩] else [] := by rw [pack1, r1, Int.toNat_natCast]
    have hsz : Pck.Sized B := ⟨by omega, fun c hc => hko c (by rw [i1]; exact List.mem_append_right _ hc)⟩
    have hszr : Pck.Sized (B.take r) := hsz.take r
    rw [hN, List.append_assoc] at i3
    cases A with
    | nil =>
      have i1' : B = a := i1.symm
      subst i1'
      conv => whnf
      ((refine hif_T ?_; conv => whnf); try (refine hcut.go ?_; conv => whnf))
      repeat (refine hcut.go ?_; conv => whnf)
      ((refine hcall_lend ?_; (conv => whnf); refine ⟨_, Pck.spec_fit B s.config.packet hsz hm, rfl, ?_⟩; conv => whnf); try (refine hcut.go ?_; conv => whnf))
      refine hobl_intro (c := (0 : Int) ≤ 0 ∧ (0 : Int) ≤ room1 s.config.packet B ∧ room1 s.config.packet B ≤ ((B.map Chunk.row).length : Int)) ⟨by omega, by omega, by rw [List.length_map]; omega⟩ ?_; conv => whnf
      refine hcall_pure ?_; conv => whnf
      refine hsub_w (a := []) (b := B.take r) (c := B.drop r) (by simp) rfl (show (room1 s.config.packet B - 0).toNat = _ by rw [r1]; simp; omega) ?_
      conv => whnf
      refine ⟨_, Pck.spec_pbytes (B.take r) s.config.packet hszr, rfl, ?_⟩; conv => whnf
      ((refine hdraw_intro ?_ ?_; (· kernel_rfl); conv => whnf); try (refine hcut.go ?_; conv => whnf))
      by_cases ho : (Pck.pbytes (B.take r) s.config.packet).2 = 0
      case pos =>
        rw [if_pos ho] at hP
        refine hif_true ?_ ?_
        · simpa using ho
        conv => whnf
        refine hobl_intro (c := ((acc.map Packet.row).length + 1) * 40 ≤ 140737488355328) (by rw [List.length_map]; omega) ?_; conv => whnf
        repeat (refine hcut.go ?_; conv => whnf)
        refine hobl_intro (c := (0 : Int) ≤ room1 s.config.packet B ∧ room1 s.config.packet B ≤ ((B.map Chunk.row).length : Int) ∧ ((B.map Chunk.row).length : Int) ≤ ((B.map Chunk.row).length : Int)) ⟨by omega, by rw [List.length_map]; omega, by omega⟩ ?_; conv => whnf
        obtain ⟨x, B1, hx⟩ : ∃ x B1, B.take r = x :: B1 := by
          cases hq : B.take r with
          | nil => rw [List.take_eq_nil_iff] at hq; rcases hq with hq | hq; omega; exact absurd hq hB
          | cons x B1 => exact ⟨x, B1, rfl⟩
        have hxl : B1.length + 1 = r := by have := congrArg List.length hx; simp at this; omega
        refine hQ2 _ _ ?_; conv => whnf
        exact ⟨⟨((x :: B1, B.drop r), n, acc ++ [⟨0, false, (Pck.pbytes (B.take r) s.config.packet).1⟩]), by rw [← hx, List.take_append_drop], by simp; omega, by simp; omega, by rw [← i3, hP]; simp⟩, (hle_P [(1000000, some 1000000), (1000001, some 1000001), (1000002, some 1000002), (1000003, some 1000003), (1000004, some 1000004), (1000005, some 1000005), (1000006, some 1000006), (1000007, some 1000007), (1000008, some 1000008), (1000009, some 1000009), (900, some 51)] (by repeat' (first | exact trivial | exact rfl | (refine ⟨⟨rfl, ?_⟩, ?_⟩) | (refine ⟨rfl, ?_⟩) | ((exact osl_eqK (show B1.length + 1 = (room1 s.config.packet B).toNat by omega) (show (B.drop r).length = (((B.map Chunk.row).length : Int) - room1 s.config.packet B).toNat by simp; omega))) | ((exact row_app (f := Packet.row) rfl rfl)) | (simp; done) | (simp; rfl))) (by repeat' (first | exact trivial | exact rfl | exact .inl rfl | exact .inr rfl | (refine ⟨⟨rfl, .inl ⟨_, rfl, ?_⟩⟩, ?_⟩) | (refine ⟨⟨rfl, _, rfl, ?_⟩, ?_⟩) | (refine ⟨⟨rfl, .inr ⟨rfl, ?_⟩⟩, ?_⟩) | (refine ⟨rfl, ?_⟩) | ((exact osl_eqK (show B1.length + 1 = (room1 s.config.packet B).toNat by omega) (show (B.drop r).length = (((B.map Chunk.row).length : Int) - room1 s.config.packet B).toNat by simp; omega))) | ((exact row_app (f := Packet.row) rfl rfl)) | (simp; done) | (simp; rfl)))), by simp; omega⟩
      case neg =>
        rw [if_neg ho] at hP
        refine hif_false ?_ ?_
        · simpa using ho
        conv => whnf
        repeat (refine hcut.go ?_; conv => whnf)
        refine hobl_intro (c := (0 : Int) ≤ room1 s.config.packet B ∧ room1 s.config.packet B ≤ ((B.map Chunk.row).length : Int) ∧ ((B.map Chunk.row).length : Int) ≤ ((B.map Chunk.row).length : Int)) ⟨by omega, by rw [List.length_map]; omega, by omega⟩ ?_; conv => whnf
        obtain ⟨x, B1, hx⟩ : ∃ x B1, B.take r = x :: B1 := by
          cases hq : B.take r with
          | nil => rw [List.take_eq_nil_iff] at hq; rcases hq with hq | hq; omega; exact absurd hq hB
          | cons x B1 => exact ⟨x, B1, rfl⟩
        have hxl : B1.length + 1 = r := by have := congrArg List.length hx; simp at this; omega
        refine hQ2 _ _ ?_; conv => whnf
        exact ⟨⟨((x :: B1, B.drop r), n, acc), by rw [← hx, List.take_append_drop], by simp; omega, by simp; omega, by rw [← i3, hP]; simp⟩, (hle_P [(1000000, some 1000000), (1000001, some 1000001), (1000002, some 1000002), (1000003, some 1000003), (1000004, some 1000004), (1000005, some 1000005), (1000006, some 1000006), (1000007, some 1000007), (1000008, some 1000008), (1000009, some 1000009), (900, some 900)] (by repeat' (first | exact trivial | exact rfl | (refine ⟨⟨rfl, ?_⟩, ?_⟩) | (refine ⟨rfl, ?_⟩) | ((exact osl_eqK (show B1.length + 1 = (room1 s.config.packet B).toNat by omega) (show (B.drop r).length = (((B.map Chunk.row).length : Int) - room1 s.config.packet B).toNat by simp; omega))) | ((exact row_app (f := Packet.row) rfl rfl)) | (simp; done) | (simp; rfl))) (by repeat' (first | exact trivial | exact rfl | exact .inl rfl | exact .inr rfl | (refine ⟨⟨rfl, .inl ⟨_, rfl, ?_⟩⟩, ?_⟩) | (refine ⟨⟨rfl, _, rfl, ?_⟩, ?_⟩) | (refine ⟨⟨rfl, .inr ⟨rfl, ?_⟩⟩, ?_⟩) | (refine ⟨rfl, ?_⟩) | ((exact osl_eqK (show B1.length + 1 = (room1 s.config.packet B).toNat by omega) (show (B.drop r).length = (((B.map Chunk.row).length : Int) - room1 s.config.packet B).toNat by simp; omega))) | ((exact row_app (f := Packet.row) rfl rfl)) | (simp; done) | (simp; rfl)))), by simp; omega⟩
    | cons t A =>
      have hal : (A.length : Int) + 1 = ((t :: A).length : Nat) := by simp
      conv => whnf
      ((refine hif_T ?_; conv => whnf); try (refine hcut.go ?_; conv => whnf))
      repeat (refine hcut.go ?_; conv => whnf)
      refine hcall_lend ?_; conv => whnf
      refine hsub_w (a := t :: A) (b := B) (c := []) (by rw [i1]; simp) rfl rfl ?_
      conv => whnf
      refine ⟨_, Pck.spec_fit B s.config.packet hsz hm, rfl, ?_⟩; conv => whnf
      repeat (refine hcut.go ?_; conv => whnf)
      refine hobl_intro (c := (0 : Int) ≤ room1 s.config.packet B ∧ ((A.length + 1 : Nat) : Int) + room1 s.config.packet B ≤ ((a.map Chunk.row).length : Int)) ⟨by omega, by rw [List.length_map, hz, List.length_cons]; omega⟩ ?_; conv => whnf
      refine hcall_pure ?_; conv => whnf
      refine hsub_w (a := t :: A) (b := B.take r) (c := B.drop r) (by rw [i1]; simp) rfl (show (room1 s.config.packet B).toNat = _ by rw [r1]; simp; omega) ?_
      conv => whnf
      refine ⟨_, Pck.spec_pbytes (B.take r) s.config.packet hszr, rfl, ?_⟩; conv => whnf
      ((refine hdraw_intro ?_ ?_; (· kernel_rfl); conv => whnf); try (refine hcut.go ?_; conv => whnf))
      by_cases ho : (Pck.pbytes (B.take r) s.config.packet).2 = 0
      case pos =>
        rw [if_pos ho] at hP
        refine hif_true ?_ ?_
        · simpa using ho
        conv => whnf
        refine hobl_intro (c := ((acc.map Packet.row).length + 1) * 40 ≤ 140737488355328) (by rw [List.length_map]; omega) ?_; conv => whnf
        repeat (refine hcut.go ?_; conv => whnf)
        refine hobl_intro (c := (0 : Int) ≤ room1 s.config.packet B ∧ room1 s.config.packet B ≤ (B.length : Int) ∧ ((A.length + 1 : Nat) : Int) + (B.length : Int) ≤ ((a.map Chunk.row).length : Int)) ⟨by omega, by omega, by rw [List.length_map, hz, List.length_cons]; omega⟩ ?_; conv => whnf
        refine hQ2 _ _ ?_; conv => whnf
        exact ⟨⟨((t :: (A ++ B.take r), B.drop r), n, acc ++ [⟨0, false, (Pck.pbytes (B.take r) s.config.packet).1⟩]), by rw [i1]; simp, by simp; omega, by simp; omega, by rw [← i3, hP]; simp⟩, (hle_P [(1000000, some 1000000), (1000001, some 1000001), (1000002, some 1000002), (1000003, some 1000003), (1000004, some 1000004), (1000005, some 1000005), (1000006, some 1000006), (1000007, some 1000007), (1000008, some 1000008), (1000009, some 1000009), (900, some 51)] (by repeat' (first | exact trivial | exact rfl | (refine ⟨⟨rfl, ?_⟩, ?_⟩) | (refine ⟨rfl, ?_⟩) | ((exact osl_eqK (show (A ++ B.take r).length + 1 = A.length + 1 + (room1 s.config.packet B).toNat by simp; omega) (show (B.drop r).length = B.length - (room1 s.config.packet B).toNat by simp; omega))) | ((exact row_app (f := Packet.row) rfl rfl)) | (simp; done) | (simp; rfl))) (by repeat' (first | exact trivial | exact rfl | exact .inl rfl | exact .inr rfl | (refine ⟨⟨rfl, .inl ⟨_, rfl, ?_⟩⟩, ?_⟩) | (refine ⟨⟨rfl, _, rfl, ?_⟩, ?_⟩) | (refine ⟨⟨rfl, .inr ⟨rfl, ?_⟩⟩, ?_⟩) | (refine ⟨rfl, ?_⟩) | ((exact osl_eqK (show (A ++ B.take r).length + 1 = A.length + 1 + (room1 s.config.packet B).toNat by simp; omega) (show (B.drop r).length = B.length - (room1 s.config.packet B).toNat by simp; omega))) | ((exact row_app (f := Packet.row) rfl rfl)) | (simp; done) | (simp; rfl)))), by simp; omega⟩
      case neg =>
        rw [if_neg ho] at hP
        refine hif_false ?_ ?_
        · simpa using ho
        conv => whnf
        repeat (refine hcut.go ?_; conv => whnf)
        refine hobl_intro (c := (0 : Int) ≤ room1 s.config.packet B ∧ room1 s.config.packet B ≤ (B.length : Int) ∧ ((A.length + 1 : Nat) : Int) + (B.length : Int) ≤ ((a.map Chunk.row).length : Int)) ⟨by omega, by omega, by rw [List.length_map, hz, List.length_cons]; omega⟩ ?_; conv => whnf
        refine hQ2 _ _ ?_; conv => whnf
        exact ⟨⟨((t :: (A ++ B.take r), B.drop r), n, acc), by rw [i1]; simp, by simp; omega, by simp; omega, by rw [← i3, hP]; simp⟩, (hle_P [(1000000, some 1000000), (1000001, some 1000001), (1000002, some 1000002), (1000003, some 1000003), (1000004, some 1000004), (1000005, some 1000005), (1000006, some 1000006), (1000007, some 1000007), (1000008, some 1000008), (1000009, some 1000009), (900, some 900)] (by repeat' (first | exact trivial | exact rfl | (refine ⟨⟨rfl, ?_⟩, ?_⟩) | (refine ⟨rfl, ?_⟩) | ((exact osl_eqK (show (A ++ B.take r).length + 1 = A.length + 1 + (room1 s.config.packet B).toNat by simp; omega) (show (B.drop r).length = B.length - (room1 s.config.packet B).toNat by simp; omega))) | ((exact row_app (f := Packet.row) rfl rfl)) | (simp; done) | (simp; rfl))) (by repeat' (first | exact trivial | exact rfl | exact .inl rfl | exact .inr rfl | (refine ⟨⟨rfl, .inl ⟨_, rfl, ?_⟩⟩, ?_⟩) | (refine ⟨⟨rfl, _, rfl, ?_⟩, ?_⟩) | (refine ⟨⟨rfl, .inr ⟨rfl, ?_⟩⟩, ?_⟩) | (refine ⟨rfl, ?_⟩) | ((exact osl_eqK (show (A ++ B.take r).length + 1 = A.length + 1 + (room1 s.config.packet B).toNat by simp; omega) (show (B.drop r).length = B.length - (room1 s.config.packet B).toNat by simp; omega))) | ((exact row_app (f := Packet.row) rfl rfl)) | (simp; done) | (simp; rfl)))), by simp; omega⟩
  case inr.inl =>
    have hdr : packFrom s.config.packet 1 ([a, b].drop 1) = packN s.config.packet 1 b.length b ++ packFrom s.config.packet (1 + 1) ([a, b].drop (1 + 1)) := rfl
    rw [hdr] at k2
    conv => whnf
    refine ⟨1, rfl, by decide, ?_⟩; conv => whnf
    refine ⟨{ x : (List Chunk × List Chunk) × Nat × List Packet // b = x.1.1 ++ x.1.2 ∧ x.1.2.length ≤ x.2.1 ∧ x.2.2.length + x.1.2.length ≤ (1 + 1) * 2 ^ 29 ∧ x.2.2 ++ (packN s.config.packet 1 x.2.1 x.1.2 ++ packFrom s.config.packet (1 + 1) ([a, b].drop (1 + 1))) = T },
      fun | ⟨((A, B), n, acc), _⟩ => hsP [1000000, 1000001, 1000002, 1000003, 1000004, 1000005, 1000006, 1000007, 1000008, 1000009] 57 [(0, .ptr 1000000 0), (3, .own 900), (4, i64 1), (5, wndK 1000009 A B), (12, .own 1000007), (13, i64 2), (14, i64 1)] (pR2 s a b [(900, rowPk acc)]), fun x => x.1.1.2.length, ⟨(([], b), b.length, acc), rfl, by simp, by dsimp only; omega, k2⟩, ?_, ?_⟩
    · exact (hle_P [(1000000, some 1000000), (1000001, some 1000001), (1000002, some 1000002), (1000003, some 1000003), (1000004, some 1000004), (1000005, some 1000005), (1000006, some 1000006), (1000007, some 1000007), (1000008, some 1000008), (1000009, some 1000009), (900, some 900)])
    rintro ⟨⟨⟨A, B⟩, n, acc⟩, i1, i2, i4, i3⟩
    dsimp only at i1 i2 i3 i4
    refine hwp_gen fun Q2 hQ2 => ?_
    have hz : b.length = A.length + B.length := by rw [i1]; simp
    have hko : ∀ c ∈ b, Okc c := hkb
    by_cases hB : B = []
    case pos =>
      subst hB
      rw [packN_nil, List.nil_append] at i3
      rw [List.length_nil] at hz
      cases A with
      | nil =>
        conv => whnf
        have ha0 : b = [] := List.eq_nil_of_length_eq_zero (by simp at hz; simp [hz])
        refine hif_false ?_ ?_
        · simp [ha0]
        conv => whnf
        repeat (refine hcut.go ?_; conv => whnf)
        refine hQ2 _ _ ?_; conv => whnf
        ((refine hwrap_F ?_; conv => whnf); try (refine hcut.go ?_; conv => whnf))
        refine hQ _ _ ?_; conv => whnf
        exact ⟨⟨(1 + 1, acc), by dsimp only; omega, by dsimp only; rw [List.length_nil] at i4; omega, i3⟩, (hle_P [(1000000, some 1000000), (1000001, some 1000001), (1000002, some 1000002), (1000003, some 1000003), (1000004, some 1000004), (1000005, some 1000005), (1000006, some 1000006), (1000007, some 1000007), (1000008, some 1000008), (1000009, some 1000009), (900, some 900)]), by dsimp only; omega⟩
      | cons t A =>
        conv => whnf
        repeat (refine hcut.go ?_; conv => whnf)
        refine hQ2 _ _ ?_; conv => whnf
        ((refine hwrap_F ?_; conv => whnf); try (refine hcut.go ?_; conv => whnf))
        refine hQ _ _ ?_; conv => whnf
        exact ⟨⟨(1 + 1, acc), by dsimp only; omega, by dsimp only; rw [List.length_nil] at i4; omega, i3⟩, (hle_P [(1000000, some 1000000), (1000001, some 1000001), (1000002, some 1000002), (1000003, some 1000003), (1000004, some 1000004), (1000005, some 1000005), (1000006, some 1000006), (1000007, some 1000007), (1000008, some 1000008), (1000009, some 1000009), (900, some 900)]), by dsimp only; omega⟩
    case neg =>
    obtain ⟨r, r1, r2, r3⟩ := room_is (most := s.config.packet) hB
    have hBl := List.length_pos_iff.2 hB
    obtain ⟨n, rfl⟩ : ∃ n', n = n' + 1 := ⟨n - 1, by omega⟩
    have hN : packN s.config.packet 1 (n + 1) B = pack1 s.config.packet 1 B ++ packN s.config.packet 1 n (B.drop r) := by rw [packN, if_neg hB, r1, Int.toNat_natCast]
    have hP : pack1 s.config.packet 1 B = if (Pck.pbytes (B.take r) s.config.packet).2 = 0 then [⟨1, false, (Pck.pbytes (B.take r) s.config.packet).1⟩] else [] := by rw [pack1, r1, Int.toNat_natCast]
    have hsz : Pck.Sized B := ⟨by omega, fun c hc => hko c (by rw [i1]; exact List.mem_append_right _ hc)⟩
    have hszr : Pck.Sized (B.take r) := hsz.take r
    rw [hN, List.append_assoc] at i3
    cases A with
    | nil =>
      have i1' : B = b := i1.symm
      subst i1'
      conv => whnf
      ((refine hif_T ?_; conv => whnf); try (refine hcut.go ?_; conv => whnf))
      repeat (refine hcut.go ?_; conv => whnf)
      ((refine hcall_lend ?_; (conv => whnf); refine ⟨_, Pck.spec_fit B s.config.packet hsz hm, rfl, ?_⟩; conv => whnf); try (refine hcut.go ?_; conv => whnf))
      refine hobl_intro (c := (0 : Int) ≤ 0 ∧ (0 : Int) ≤ room1 s.config.packet B ∧ room1 s.config.packet B ≤ ((B.map Chunk.row).length : Int)) ⟨by omega, by omega, by rw [List.length_map]; omega⟩ ?_; conv => whnf
      refine hcall_pure ?_; conv => whnf
      refine hsub_w (a := []) (b := B.take r) (c := B.drop r) (by simp) rfl (show (room1 s.config.packet B - 0).toNat = _ by rw [r1]; simp; omega) ?_
      conv => whnf
      refine ⟨_, Pck.spec_pbytes (B.take r) s.config.packet hszr, rfl, ?_⟩; conv => whnf
      ((refine hdraw_intro ?_ ?_; (· kernel_rfl); conv => whnf); try (refine hcut.go ?_; conv => whnf))
      by_cases ho : (Pck.pbytes (B.take r) s.config.packet).2 = 0
      case pos =>
        rw [if_pos ho] at hP
        refine hif_true ?_ ?_
        · simpa using ho
        conv => whnf
        refine hobl_intro (c := ((acc.map Packet.row).length + 1) * 40 ≤ 140737488355328) (by rw [List.length_map]; omega) ?_; conv => whnf
        repeat (refine hcut.go ?_; conv => whnf)
        refine hobl_intro (c := (0 : Int) ≤ room1 s.config.packet B ∧ room1 s.config.packet B ≤ ((B.map Chunk.row).length : Int) ∧ ((B.map Chunk.row).length : Int) ≤ ((B.map Chunk.row).length : Int)) ⟨by omega, by rw [List.length_map]; omega, by omega⟩ ?_; conv => whnf
        obtain ⟨x, B1, hx⟩ : ∃ x B1, B.take r = x :: B1 := by
          cases hq : B.take r with
          | nil => rw [List.take_eq_nil_iff] at hq; rcases hq with hq | hq; omega; exact absurd hq hB
          | cons x B1 => exact ⟨x, B1, rfl⟩
        have hxl : B1.length + 1 = r := by have := congrArg List.length hx; simp at this; omega
        refine hQ2 _ _ ?_; conv => whnf
        exact ⟨⟨((x :: B1, B.drop r), n, acc ++ [⟨1, false, (Pck.pbytes (B.take r) s.config.packet).1⟩]), by rw [← hx, List.take_append_drop], by simp; omega, by simp; omega, by rw [← i3, hP]; simp⟩, (hle_P [(1000000, some 1000000), (1000001, some 1000001), (1000002, some 1000002), (1000003, some 1000003), (1000004, some 1000004), (1000005, some 1000005), (1000006, some 1000006), (1000007, some 1000007), (1000008, some 1000008), (1000009, some 1000009), (900, some 51)] (by repeat' (first | exact trivial | exact rfl | (refine ⟨⟨rfl, ?_⟩, ?_⟩) | (refine ⟨rfl, ?_⟩) | ((exact osl_eqK (show B1.length + 1 = (room1 s.config.packet B).toNat by omega) (show (B.drop r).length = (((B.map Chunk.row).length : Int) - room1 s.config.packet B).toNat by simp; omega))) | ((exact row_app (f := Packet.row) rfl rfl)) | (simp; done) | (simp; rfl))) (by repeat' (first | exact trivial | exact rfl | exact .inl rfl | exact .inr rfl | (refine ⟨⟨rfl, .inl ⟨_, rfl, ?_⟩⟩, ?_⟩) | (refine ⟨⟨rfl, _, rfl, ?_⟩, ?_⟩) | (refine ⟨⟨rfl, .inr ⟨rfl, ?_⟩⟩, ?_⟩) | (refine ⟨rfl, ?_⟩) | ((exact osl_eqK (show B1.length + 1 = (room1 s.config.packet B).toNat by omega) (show (B.drop r).length = (((B.map Chunk.row).length : Int) - room1 s.config.packet B).toNat by simp; omega))) | ((exact row_app (f := Packet.row) rfl rfl)) | (simp; done) | (simp; rfl)))), by simp; omega⟩
      case neg =>
        rw [if_neg ho] at hP
        refine hif_false ?_ ?_
        · simpa using ho
        conv => whnf
        repeat (refine hcut.go ?_; conv => whnf)
        refine hobl_intro (c := (0 : Int) ≤ room1 s.config.packet B ∧ room1 s.config.packet B ≤ ((B.map Chunk.row).length : Int) ∧ ((B.map Chunk.row).length : Int) ≤ ((B.map Chunk.row).length : Int)) ⟨by omega, by rw [List.length_map]; omega, by omega⟩ ?_; conv => whnf
        obtain ⟨x, B1, hx⟩ : ∃ x B1, B.take r = x :: B1 := by
          cases hq : B.take r with
          | nil => rw [List.take_eq_nil_iff] at hq; rcases hq with hq | hq; omega; exact absurd hq hB
          | cons x B1 => exact ⟨x, B1, rfl⟩
        have hxl : B1.length + 1 = r := by have := congrArg List.length hx; simp at this; omega
        refine hQ2 _ _ ?_; conv => whnf
        exact ⟨⟨((x :: B1, B.drop r), n, acc), by rw [← hx, List.take_append_drop], by simp; omega, by simp; omega, by rw [← i3, hP]; simp⟩, (hle_P [(1000000, some 1000000), (1000001, some 1000001), (1000002, some 1000002), (1000003, some 1000003), (1000004, some 1000004), (1000005, some 1000005), (1000006, some 1000006), (1000007, some 1000007), (1000008, some 1000008), (1000009, some 1000009), (900, some 900)] (by repeat' (first | exact trivial | exact rfl | (refine ⟨⟨rfl, ?_⟩, ?_⟩) | (refine ⟨rfl, ?_⟩) | ((exact osl_eqK (show B1.length + 1 = (room1 s.config.packet B).toNat by omega) (show (B.drop r).length = (((B.map Chunk.row).length : Int) - room1 s.config.packet B).toNat by simp; omega))) | ((exact row_app (f := Packet.row) rfl rfl)) | (simp; done) | (simp; rfl))) (by repeat' (first | exact trivial | exact rfl | exact .inl rfl | exact .inr rfl | (refine ⟨⟨rfl, .inl ⟨_, rfl, ?_⟩⟩, ?_⟩) | (refine ⟨⟨rfl, _, rfl, ?_⟩, ?_⟩) | (refine ⟨⟨rfl, .inr ⟨rfl, ?_⟩⟩, ?_⟩) | (refine ⟨rfl, ?_⟩) | ((exact osl_eqK (show B1.length + 1 = (room1 s.config.packet B).toNat by omega) (show (B.drop r).length = (((B.map Chunk.row).length : Int) - room1 s.config.packet B).toNat by simp; omega))) | ((exact row_app (f := Packet.row) rfl rfl)) | (simp; done) | (simp; rfl)))), by simp; omega⟩
    | cons t A =>
      have hal : (A.length : Int) + 1 = ((t :: A).length : Nat) := by simp
      conv => whnf
      ((refine hif_T ?_; conv => whnf); try (refine hcut.go ?_; conv => whnf))
      repeat (refine hcut.go ?_; conv => whnf)
      refine hcall_lend ?_; conv => whnf
      refine hsub_w (a := t :: A) (b := B) (c := []) (by rw [i1]; simp) rfl rfl ?_
      conv => whnf
      refine ⟨_, Pck.spec_fit B s.config.packet hsz hm, rfl, ?_⟩; conv => whnf
      repeat (refine hcut.go ?_; conv => whnf)
      refine hobl_intro (c := (0 : Int) ≤ room1 s.config.packet B ∧ ((A.length + 1 : Nat) : Int) + room1 s.config.packet B ≤ ((b.map Chunk.row).length : Int)) ⟨by omega, by rw [List.length_map, hz, List.length_cons]; omega⟩ ?_; conv => whnf
      refine hcall_pure ?_; conv => whnf
      refine hsub_w (a := t :: A) (b := B.take r) (c := B.drop r) (by rw [i1]; simp) rfl (show (room1 s.config.packet B).toNat = _ by rw [r1]; simp; omega) ?_
      conv => whnf
      refine ⟨_, Pck.spec_pbytes (B.take r) s.config.packet hszr, rfl, ?_⟩; conv => whnf
      ((refine hdraw_intro ?_ ?_; (· kernel_rfl); conv => whnf); try (refine hcut.go ?_; conv => whnf))
      by_cases ho : (Pck.pbytes (B.take r) s.config.packet).2 = 0
      case pos =>
        rw [if_pos ho] at hP
        refine hif_true ?_ ?_
        · simpa using ho
        conv => whnf
        refine hobl_intro (c := ((acc.map Packet.row).length + 1) * 40 ≤ 140737488355328) (by rw [List.length_map]; omega) ?_; conv => whnf
        repeat (refine hcut.go ?_; conv => whnf)
        refine hobl_intro (c := (0 : Int) ≤ room1 s.config.packet B ∧ room1 s.config.packet B ≤ (B.length : Int) ∧ ((A.length + 1 : Nat) : Int) + (B.length : Int) ≤ ((b.map Chunk.row).length : Int)) ⟨by omega, by omega, by rw [List.length_map, hz, List.length_cons]; omega⟩ ?_; conv => whnf
        refine hQ2 _ _ ?_; conv => whnf
        exact ⟨⟨((t :: (A ++ B.take r), B.drop r), n, acc ++ [⟨1, false, (Pck.pbytes (B.take r) s.config.packet).1⟩]), by rw [i1]; simp, by simp; omega, by simp; omega, by rw [← i3, hP]; simp⟩, (hle_P [(1000000, some 1000000), (1000001, some 1000001), (1000002, some 1000002), (1000003, some 1000003), (1000004, some 1000004), (1000005, some 1000005), (1000006, some 1000006), (1000007, some 1000007), (1000008, some 1000008), (1000009, some 1000009), (900, some 51)] (by repeat' (first | exact trivial | exact rfl | (refine ⟨⟨rfl, ?_⟩, ?_⟩) | (refine ⟨rfl, ?_⟩) | ((exact osl_eqK (show (A ++ B.take r).length + 1 = A.length + 1 + (room1 s.config.packet B).toNat by simp; omega) (show (B.drop r).length = B.length - (room1 s.config.packet B).toNat by simp; omega))) | ((exact row_app (f := Packet.row) rfl rfl)) | (simp; done) | (simp; rfl))) (by repeat' (first | exact trivial | exact rfl | exact .inl rfl | exact .inr rfl | (refine ⟨⟨rfl, .inl ⟨_, rfl, ?_⟩⟩, ?_⟩) | (refine ⟨⟨rfl, _, rfl, ?_⟩, ?_⟩) | (refine ⟨⟨rfl, .inr ⟨rfl, ?_⟩⟩, ?_⟩) | (refine ⟨rfl, ?_⟩) | ((exact osl_eqK (show (A ++ B.take r).length + 1 = A.length + 1 + (room1 s.config.packet B).toNat by simp; omega) (show (B.drop r).length = B.length - (room1 s.config.packet B).toNat by simp; omega))) | ((exact row_app (f := Packet.row) rfl rfl)) | (simp; done) | (simp; rfl)))), by simp; omega⟩
      case neg =>
        rw [if_neg ho] at hP
        refine hif_false ?_ ?_
        · simpa using ho
        conv => whnf
        repeat (refine hcut.go ?_; conv => whnf)
        refine hobl_intro (c := (0 : Int) ≤ room1 s.config.packet B ∧ room1 s.config.packet B ≤ (B.length : Int) ∧ ((A.length + 1 : Nat) : Int) + (B.length : Int) ≤ ((b.map Chunk.row).length : Int)) ⟨by omega, by omega, by rw [List.length_map, hz, List.length_cons]; omega⟩ ?_; conv => whnf
        refine hQ2 _ _ ?_; conv => whnf
        exact ⟨⟨((t :: (A ++ B.take r), B.drop r), n, acc), by rw [i1]; simp, by simp; omega, by simp; omega, by rw [← i3, hP]; simp⟩, (hle_P [(1000000, some 1000000), (1000001, some 1000001), (1000002, some 1000002), (1000003, some 1000003), (1000004, some 1000004), (1000005, some 1000005), (1000006, some 1000006), (1000007, some 1000007), (1000008, some 1000008), (1000009, some 1000009), (900, some 900)] (by repeat' (first | exact trivial | exact rfl | (refine ⟨⟨rfl, ?_⟩, ?_⟩) | (refine ⟨rfl, ?_⟩) | ((exact osl_eqK (show (A ++ B.take r).length + 1 = A.length + 1 + (room1 s.config.packet B).toNat by simp; omega) (show (B.drop r).length = B.length - (room1 s.config.packet B).toNat by simp; omega))) | ((exact row_app (f := Packet.row) rfl rfl)) | (simp; done) | (simp; rfl))) (by repeat' (first | exact trivial | exact rfl | exact .inl rfl | exact .inr rfl | (refine ⟨⟨rfl, .inl ⟨_, rfl, ?_⟩⟩, ?_⟩) | (refine ⟨⟨rfl, _, rfl, ?_⟩, ?_⟩) | (refine ⟨⟨rfl, .inr ⟨rfl, ?_⟩⟩, ?_⟩) | (refine ⟨rfl, ?_⟩) | ((exact osl_eqK (show (A ++ B.take r).length + 1 = A.length + 1 + (room1 s.config.packet B).toNat by simp; omega) (show (B.drop r).length = B.length - (room1 s.config.packet B).toNat by simp; omega))) | ((exact row_app (f := Packet.row) rfl rfl)) | (simp; done) | (simp; rfl)))), by simp; omega⟩
  case inr.inr =>
    have k2 : acc = T := by rw [← k2]; simp [packFrom]
    subst k2
    conv => whnf
    refine hQ _ _ ?_; conv => whnf
    (exact hfin_P [(1000000, some 1000000), (1000001, some 1000001), (1000002, some 1000002), (1000003, some 1000003), (1000004, some 1000004), (1000005, some 1000005), (1000006, some 1000006), (1000007, some 1000007), (1000008, some 1000008), (1000009, some 1000009), (0, some 900)])
end Snd
end Go.HL
