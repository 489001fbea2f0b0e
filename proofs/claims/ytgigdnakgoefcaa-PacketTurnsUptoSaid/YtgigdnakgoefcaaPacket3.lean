/- PacketFit and PacketTurns. -/
import Derived.Test.YtgigdnakgoefcaaPacket2
namespace Go.HL
open Go.Proofs
namespace Pck
open Chk
set_option maxHeartbeats 2000000
set_option maxRecDepth 100000
set_option linter.unusedSimpArgs false
theorem bulkR_mem : ∀ {rows : List (List PV)} {r : List PV}, r ∈ rows → bulkL r ≤ bulkR rows
  | x :: rows, r, h => by
    simp only [bulkR]
    rcases List.mem_cons.1 h with rfl | h
    · omega
    · have := bulkR_mem h; omega
theorem sized_of {l : List Chunk} (h : bulkR (l.map Chunk.row) ≤ 1048576) : Sized l := by
  have h6 := bulkR_ge (rows := l.map Chunk.row) (fun r hr => by obtain ⟨p, _, rfl⟩ := List.mem_map.1 hr; simp [Chunk.row, bulkL, PV.bulk])
  rw [List.length_map] at h6
  refine ⟨by omega, fun c hc => ?_⟩
  have h7 := bulkR_mem (List.mem_map_of_mem (f := Chunk.row) hc)
  have h8 := bulkR_ge (rows := c.spans.map Span.row) (fun r hr => by obtain ⟨p, _, rfl⟩ := List.mem_map.1 hr; simp [Span.row, bulkL, PV.bulk])
  have h9 := bulkR_ge (rows := c.skips.map Skip.row) (fun r hr => by obtain ⟨p, _, rfl⟩ := List.mem_map.1 hr; simp [Skip.row, bulkL, PV.bulk])
  rw [List.length_map] at h8 h9
  simp only [Chunk.row, bulkL, PV.bulk] at h7
  omega
def l0 : List Chunk := [⟨2, 1, 0, 0, 0, false, false, [], [], 0, []⟩, ⟨3, 2, 0, 0, 0, false, false, [], [], 0, []⟩]
theorem l0_bytes : pbytes l0 40 = ([2, 4, 0, 1, 0, 0, 3, 2, 0, 2], 0) := by rfl
theorem l0_parse : pparse [2, 4, 0, 1, 0, 0, 3, 2, 0, 2] = (l0, 0) := by rfl
theorem l0_fit : fitFrom 7 0 0 l0 = 1 := by rfl
theorem l0_sized : Sized l0 := ⟨by decide, fun c hc => by
  simp only [l0, List.mem_cons, List.not_mem_nil, or_false] at hc
  rcases hc with rfl | rfl <;> exact ⟨by decide, by decide⟩⟩
theorem spec_alive3 : FunOK Try.prog 24 [] noHeap (hbool true) noHeap := by
  refine funOK_pure mixed Try.func24 (by decide) ?_
  conv => whnf
  refine hcall_pure ?_; conv => whnf
  refine ⟨_, spec_pbytes l0 40 l0_sized, rfl, ?_⟩
  rw [l0_bytes]
  conv => whnf
  refine hcall_pure ?_; conv => whnf
  refine ⟨_, spec_pparse [2, 4, 0, 1, 0, 0, 3, 2, 0, 2] (by decide), rfl, ?_⟩
  rw [l0_parse]
  conv => whnf
  (repeat' (first | (refine hwrap_raw ?_; conv => whnf) | (refine hobl_intro ?_ ?_; (first | kernel_rfl | decide); conv => whnf) | (refine hdraw_intro ?_ ?_; kernel_rfl; conv => whnf) | (refine hcut.go ?_; conv => whnf) | (refine hcall_lend ?_; (conv => whnf); refine ⟨_, spec_fit l0 7 l0_sized ⟨by decide, by decide⟩, rfl, ?_⟩; conv => whnf) | (refine hrow_intro ?_ rfl ?_; (first | decide | kernel_rfl | omega); conv => whnf) | (refine hif_true ?_ ?_; · kernel_rfl; conv => whnf) | (refine hif_false ?_ ?_; · kernel_rfl; conv => whnf)))
  all_goals kernel_rfl

theorem fitlaw (l : List Chunk) (most : Int) (hl : Sized l) (hm : inI most) : FunOK Try.prog 7 [chunks l, i64 most] noHeap (hbool true) noHeap := by
  have hl1 := hl.1
  refine funOK_pure mixed Try.func7 (by decide) ?_
  conv => whnf
  refine hcall_lend ?_; conv => whnf
  refine ⟨_, spec_alive3, rfl, ?_⟩; conv => whnf
  refine hcall_pure ?_; conv => whnf
  refine ⟨_, spec_fit l most hl hm, rfl, ?_⟩
  obtain ⟨r, h1, h2, h3⟩ := fit_all l most
  rw [h1]
  have hle := h2.le
  conv => whnf
  refine hif_false ?_ ?_
  · refine decide_eq_false ?_; rw [List.length_map]; omega
  conv => whnf
  refine hcut.meet PUnit (fun _ => hs 50 [(0, chunks l), (1, i64 most), (5, i64 r)] []) ?_ ?_
  · conv => whnf
    refine hif_intro (fun c => ?_) (fun c => ?_)
    · have c : 0 < r := by simpa using c
      conv => whnf
      refine hobl_intro (by rw [List.length_map]; omega) ?_; conv => whnf
      refine hsub_eq (o' := 0) (n' := r) rfl (by omega) ?_
      refine hsub_at (l := l) (by omega) ?_
      rw [List.drop_zero]
      conv => whnf
      refine hcall_pure ?_; conv => whnf
      refine ⟨_, spec_pbytes (l.take r) most (hl.take _), rfl, ?_⟩
      rw [h2.bytes c]
      conv => whnf
      exact ⟨⟨⟩, hle_hs [] rfl rfl rfl rfl ⟨⟨rfl, rfl⟩, ⟨rfl, rfl⟩, ⟨rfl, rfl⟩, trivial⟩ trivial⟩
    · conv => whnf
      exact ⟨⟨⟩, hle_hs [] rfl rfl rfl rfl ⟨⟨rfl, rfl⟩, ⟨rfl, rfl⟩, ⟨rfl, rfl⟩, trivial⟩ trivial⟩
  rintro ⟨⟩
  conv => whnf
  refine hif_intro (fun c => ?_) (fun c => ?_)
  · conv => whnf
  have c : ¬ r = l.length := by
    intro h; subst h; simp at c
  conv => whnf
  refine hwrap_fit (W_fit (by omega) (by omega)) ?_; conv => whnf
  refine hobl_intro (by rw [List.length_map]; omega) ?_; conv => whnf
  refine hsub_eq (o' := 0) (n' := r + 1) rfl (by omega) ?_
  refine hsub_at (l := l) (by omega) ?_
  rw [List.drop_zero]
  conv => whnf
  refine hcall_pure ?_; conv => whnf
  refine ⟨_, spec_pbytes (l.take (r + 1)) most (hl.take _), rfl, ?_⟩
  have h4 := h3 (by omega)
  generalize pbytes (l.take (r + 1)) most = p at h4 ⊢
  conv => whnf
  show hbool (p.2 != 0) = hbool true
  rw [show (p.2 != 0) = true from by simpa using h4]

theorem parseN_bytes : ∀ {l : List Chunk} {f : Nat}, (allBytes l).length ≤ f → firstWrong l = 0 → parseN f (allBytes l) = (l.map clean, 0)
  | [], f, _, _ => by cases f <;> rfl
  | c :: r, f, h, hw => by
    simp only [firstWrong] at hw
    have hc : wrong c = 0 := by
      rcases Int.decEq (wrong c) 0 with h | h
      · rw [if_pos h] at hw; exact hw
      · exact h
    rw [if_neg (fun h => h hc)] at hw
    have hb : allBytes (c :: r) = Chk.bytes c ++ allBytes r := rfl
    have hlen : 2 ≤ (Chk.bytes c).length := by rw [Chk.bytes, if_pos hc]; simp
    rw [hb, List.length_append] at h
    obtain ⟨g, rfl⟩ : ∃ g, f = g + 1 := ⟨f - 1, by omega⟩
    rw [hb, parseN, if_neg (by rw [List.length_append]; omega), parse_bytes hc, if_neg (fun h => h rfl)]
    have hd : (Chk.bytes c ++ allBytes r).drop (((Chk.bytes c).length : Int)).toNat = allBytes r := by simp
    rw [show (clean c, ((Chk.bytes c).length : Int), (0 : Int)).2.1 = ((Chk.bytes c).length : Int) from rfl, hd, parseN_bytes (by omega) hw]
    rfl
theorem clean_all {l : List Chunk} (hw : firstWrong l = 0) : firstWrong (l.map clean) = 0 ∧ allBytes (l.map clean) = allBytes l := by
  induction l with
  | nil => exact ⟨rfl, rfl⟩
  | cons c r ih =>
    simp only [firstWrong] at hw
    have hc : wrong c = 0 := by
      rcases Int.decEq (wrong c) 0 with h | h
      · rw [if_pos h] at hw; exact hw
      · exact h
    rw [if_neg (fun h => h hc)] at hw
    obtain ⟨h1, h2⟩ := ih hw
    refine ⟨?_, ?_⟩
    · simp only [List.map_cons, firstWrong]
      rw [clean_wrong, if_neg (fun h => h hc)]; exact h1
    · show Chk.bytes (clean c) ++ allBytes (r.map clean) = Chk.bytes c ++ allBytes r
      rw [h2, Chk.bytes, Chk.bytes, clean_wrong, clean_body, clean_kind]
theorem parseN_good : ∀ {f : Nat} {b : List UInt8}, b.length ≤ f → (parseN f b).2 = 0 → allBytes (parseN f b).1 = b ∧ firstWrong (parseN f b).1 = 0 ∧ (b ≠ [] → (parseN f b).1 ≠ [])
  | 0, b, h, _ => by
    have : b = [] := List.eq_nil_of_length_eq_zero (by omega)
    subst this
    exact ⟨rfl, rfl, fun h => absurd rfl h⟩
  | f + 1, b, h, h2 => by
    by_cases h0 : b.length = 0
    · have : b = [] := List.eq_nil_of_length_eq_zero h0
      subst this
      exact ⟨rfl, rfl, fun h => absurd rfl h⟩
    rw [parseN, if_neg h0] at h2 ⊢
    by_cases he : (parse b).2.2 ≠ 0
    · rw [if_pos he] at h2; exact absurd h2 he
    rw [if_neg he] at h2 ⊢
    have he : (parse b).2.2 = 0 := by omega
    have hn := parse_n he
    obtain ⟨g1, g2, g3, g4⟩ := parse_good he
    by_cases hr : (parseN f (b.drop (parse b).2.1.toNat)).2 ≠ 0
    · rw [if_pos hr] at h2; exact absurd h2 hr
    rw [if_neg hr]
    obtain ⟨i1, i2, i3⟩ := parseN_good (f := f) (b := b.drop (parse b).2.1.toNat) (by rw [List.length_drop]; omega) (by omega)
    refine ⟨?_, ?_, fun _ => by simp⟩
    · show Chk.bytes (parse b).1 ++ allBytes (parseN f (b.drop (parse b).2.1.toNat)).1 = b
      rw [i1, g4, List.take_append_drop]
    · simp only [firstWrong]
      rw [if_neg (fun h => h g1)]; exact i2
theorem pb_ok {l : List Chunk} {most : Int} (h : (pbytes l most).2 = 0) : l.length ≠ 0 ∧ firstWrong l = 0 ∧ ((allBytes l).length : Int) ≤ most ∧ pbytes l most = (allBytes l, 0) := by
  unfold pbytes at h ⊢
  by_cases h1 : l.length = 0
  · rw [if_pos h1] at h; cases h
  rw [if_neg h1] at h ⊢
  by_cases h2 : firstWrong l ≠ 0
  · rw [if_pos h2] at h; exact absurd h h2
  rw [if_neg h2] at h ⊢
  by_cases h3 : ((allBytes l).length : Int) > most
  · rw [if_pos h3] at h; cases h
  rw [if_neg h3]
  exact ⟨h1, by omega, by omega, rfl⟩
theorem pb_of {l : List Chunk} {most : Int} (h1 : l.length ≠ 0) (h2 : firstWrong l = 0) (h3 : ((allBytes l).length : Int) ≤ most) : pbytes l most = (allBytes l, 0) := by
  rw [pbytes, if_neg h1, if_neg (fun h => h h2), if_neg (by omega)]
theorem clean_sized {l : List Chunk} (h : Sized l) : Sized (l.map clean) := by
  refine ⟨by rw [List.length_map]; exact h.1, fun d hd => ?_⟩
  obtain ⟨c, hc, rfl⟩ := List.mem_map.1 hd
  have := h.2 c hc
  unfold clean; (repeat' split) <;> constructor <;> first | (simp [no]; done) | (dsimp only [no]; omega)
theorem turns (l : List Chunk) (b : List UInt8) (hl : Sized l) (hb : b.length < 2 ^ 37) : FunOK Try.prog 6 [chunks l, byts b] noHeap (hbool true) noHeap := by
  refine funOK_pure mixed Try.func6 (by decide) ?_
  have hlen : ∀ l : List UInt8, (l.map bRow).length = l.length := fun l => by simp
  conv => whnf
  refine hcall_lend ?_; conv => whnf
  refine ⟨_, spec_alive3, rfl, ?_⟩; conv => whnf
  refine hcut.meet PUnit (fun _ => hs 79 [(1, byts b)] []) ?_ ?_
  · conv => whnf
    refine hcall_pure ?_; conv => whnf
    refine ⟨_, spec_pbytes l 1000000 hl, rfl, ?_⟩
    have hok := pb_ok (l := l) (most := 1000000)
    generalize pbytes l 1000000 = p at hok ⊢
    conv => whnf
    refine hif_intro (fun k => ?_) (fun k => ?_)
    · have k : p.2 = 0 := by simpa using k
      obtain ⟨h1, h2, h3, rfl⟩ := hok k
      obtain ⟨h4, h5⟩ := clean_all h2
      have hne : ¬ (allBytes l).length = 0 := by
        intro h
        cases l with
        | nil => exact h1 rfl
        | cons c r =>
          have hc : wrong c = 0 := by
            simp only [firstWrong] at h2
            rcases Int.decEq (wrong c) 0 with h' | h'
            · rw [if_pos h'] at h2; exact h2
            · exact h'
          have : allBytes (c :: r) = Chk.bytes c ++ allBytes r := rfl
          rw [this, Chk.bytes, if_pos hc] at h
          simp at h
      have hpp : pparse (allBytes l) = (l.map clean, 0) := by rw [pparse, if_neg hne, parseN_bytes (Nat.le_refl _) h2]
      conv => whnf
      refine hcall_pure ?_; conv => whnf
      refine ⟨_, spec_pparse (allBytes l) (by omega), rfl, ?_⟩
      rw [hpp]
      conv => whnf
      refine hif_false ?_ ?_
      · simp
      conv => whnf
      refine hcall_pure ?_; conv => whnf
      refine ⟨_, spec_pbytes (l.map clean) ((allBytes l).map bRow).length (clean_sized hl), rfl, ?_⟩
      rw [pb_of (l := l.map clean) (by rw [List.length_map]; exact h1) h4 (by rw [h5, hlen]; omega), h5]
      conv => whnf
      refine hbytes_intro rfl ?_; conv => whnf
      refine hbytes_intro rfl ?_; conv => whnf
      refine hif_false ?_ ?_
      · simp
      conv => whnf
      exact ⟨⟨⟩, hle_hs [] rfl rfl rfl rfl ⟨⟨rfl, rfl⟩, trivial⟩ trivial⟩
    · conv => whnf
      exact ⟨⟨⟩, hle_hs [] rfl rfl rfl rfl ⟨⟨rfl, rfl⟩, trivial⟩ trivial⟩
  rintro ⟨⟩
  conv => whnf
  refine hcall_pure ?_; conv => whnf
  refine ⟨_, spec_pparse b hb, rfl, ?_⟩
  have hsz := pparse_sized hb
  have hbad : (pparse b).2 ≠ 0 → (pparse b).1 = [] := by
    unfold pparse; split
    · intro _; rfl
    · exact parseN_nil _ _
  have hgood : (pparse b).2 = 0 → allBytes (pparse b).1 = b ∧ firstWrong (pparse b).1 = 0 ∧ (pparse b).1.length ≠ 0 := by
    unfold pparse; split
    · intro h; cases h
    · rename_i h0
      intro h
      obtain ⟨i1, i2, i3⟩ := parseN_good (Nat.le_refl _) h
      exact ⟨i1, i2, fun h => i3 (fun e => h0 (by rw [e]; rfl)) (List.eq_nil_of_length_eq_zero h)⟩
  generalize pparse b = p at hsz hbad hgood ⊢
  obtain ⟨m, e⟩ := p
  dsimp only at hsz hbad hgood
  conv => whnf
  refine hif_intro (fun k => ?_) (fun k => ?_)
  · have k : e ≠ 0 := by simpa using k
    have := hbad k
    subst this
    conv => whnf
    rfl
  · have k : e = 0 := by simpa using k
    obtain ⟨i1, i2, i3⟩ := hgood k
    conv => whnf
    refine hcall_pure ?_; conv => whnf
    refine ⟨_, spec_pbytes m (b.map bRow).length hsz, rfl, ?_⟩
    rw [pb_of i3 i2 (by rw [i1, hlen]; omega), i1]
    conv => whnf
    refine hbytes_intro rfl ?_; conv => whnf
    refine hbytes_intro rfl ?_; conv => whnf
    simp
end Pck
end Go.HL
