/- The score: a sack's answer as owned slices (printed by sacko.py from XScore2). -/
import Derived.Test.YticmofoeecjnhaaSndS
namespace Go.HL
open Go.Proofs
namespace Sco
open Ser
set_option maxHeartbeats 2000000
set_option maxRecDepth 100000
set_option linter.unusedSimpArgs false
theorem spec_sackO (l : List Sent) (cum : Int) (c : Chunk) (paths : Int) (hl : Sized l) (hr : Right l cum paths) (hsp : c.spans.length < 2 ^ 60) :
    FunOK Try.prog 74 [sents l, i64 cum, c.hv, i64 paths] noHeap (.tup [.own 0, i64 (sack l cum c paths).2.1, .own 1, .own 2]) (lk .free [(0, sentB (sack l cum c paths).1), (1, intB (sack l cum c paths).2.2.1), (2, intB (sack l cum c paths).2.2.2)]) := by
  have hl1 := hl.len
  have hp0 := hr.p0
  have hp1 := hr.p1
  have hc0 := hr.c0
  have hc1 := hr.c1
  refine funOK_of mixed Try.func74 (by decide) [] (fun _ => .inl rfl) ?_
  have hn := near_lo (a := cum) (t := c.tag) (by omega) (by omega)
  rw [sack]
  generalize hN : near cum c.tag = n at hn ⊢
  conv => whnf
  refine hobl_intro (c := 0 ≤ (if 0 > paths then 0 else paths) ∧ (if 0 > paths then 0 else paths) = (if 0 > paths then 0 else paths) ∧ (if 0 > paths then 0 else paths) * 8 ≤ 140737488355328) (by omega) ?_
  conv => whnf
  (refine hcall_lend ?_; (conv => whnf); refine ⟨_, spec_near _ _, rfl, ?_⟩; conv => whnf)
  rw [hN]
  conv => whnf
  refine hcut.meet PUnit (fun _ => hs 165 [(0, sents l), (1, i64 cum), (6, .ptr 6 0), (8, hnil), (10, .own 900), (11, hnil), (12, i64 n), (13, i64 (cum + l.length))] [(6, .live (.cells 29 c.cells)), (900, intB (List.replicate paths.toNat 0))]) ?_ ?_
  · have e21 : HSlot.live (.row 3 1 (List.replicate (if 0 > paths then 0 else paths).toNat [pi 0])) = intB (List.replicate paths.toNat 0) := by
      rw [if_neg (by omega), intB, List.map_replicate]
    conv => whnf
    refine hif_intro (fun c1 => ?_) (fun c1 => ?_)
    · have c1 : 0 < l.length := by simpa using c1
      have e1 := hr.rise (l.length - 1) (l[l.length - 1]) (List.getElem?_eq_getElem (by omega))
      conv => whnf
      ((refine hwrap_F ?_; conv => whnf); try (refine hcut.go ?_; conv => whnf))
      refine hrow_at (l.length - 1) (by simp; omega) (by omega) ?_
      conv => whnf
      exact ⟨⟨⟩, (hle_Q [(6, some 6), (900, some 21)] (by repeat' (first | exact trivial | exact rfl | (refine ⟨⟨rfl, ?_⟩, ?_⟩) | (refine ⟨rfl, ?_⟩) | (exact i64_eq (by omega)) | (exact e21) | (simp; done) | (simp; rfl))) (by repeat' (first | exact trivial | exact rfl | exact .inl rfl | exact .inr rfl | (refine ⟨⟨rfl, .inl ⟨_, rfl, ?_⟩⟩, ?_⟩) | (refine ⟨⟨rfl, _, rfl, ?_⟩, ?_⟩) | (refine ⟨⟨rfl, .inr ⟨rfl, ?_⟩⟩, ?_⟩) | (refine ⟨rfl, ?_⟩) | (exact i64_eq (by omega)) | (exact e21) | (simp; done) | (simp; rfl))))⟩
    · have c1 : l.length = 0 := by simpa using c1
      conv => whnf
      exact ⟨⟨⟩, (hle_Q [(6, some 6), (900, some 21)] (by repeat' (first | exact trivial | exact rfl | (refine ⟨⟨rfl, ?_⟩, ?_⟩) | (refine ⟨rfl, ?_⟩) | (exact i64_eq (by omega)) | (exact e21) | (simp; done) | (simp; rfl))) (by repeat' (first | exact trivial | exact rfl | exact .inl rfl | exact .inr rfl | (refine ⟨⟨rfl, .inl ⟨_, rfl, ?_⟩⟩, ?_⟩) | (refine ⟨⟨rfl, _, rfl, ?_⟩, ?_⟩) | (refine ⟨⟨rfl, .inr ⟨rfl, ?_⟩⟩, ?_⟩) | (refine ⟨rfl, ?_⟩) | (exact i64_eq (by omega)) | (exact e21) | (simp; done) | (simp; rfl))))⟩
  rintro ⟨⟩
  conv => whnf
  by_cases k1 : n < cum ∨ n > cum + l.length
  · rw [if_pos k1]
    by_cases k2 : n < cum
    · ((refine hif_T ?_; conv => whnf); try (refine hcut.go ?_; conv => whnf))
      ((refine hcall_own [(0, 46)]  ?_; (conv => whnf); refine ⟨_, _,  spec_own l hl, ⟨⟨⟨rfl, rfl⟩, trivial⟩, rfl, rfl, rfl⟩, ?_⟩; conv => whnf); try (refine hcut.go ?_; conv => whnf))
      exact hfin_of [(0, some 46), (1, some 900), (2, none)] rfl rfl trivial rfl rfl ⟨⟨rfl, .inl ⟨46, rfl, rfl⟩⟩, ⟨rfl, .inl ⟨900, rfl, rfl⟩⟩, ⟨rfl, .inr ⟨rfl, rfl⟩⟩, trivial⟩
    · ((refine hif_F ?_; conv => whnf); try (refine hcut.go ?_; conv => whnf))
      ((refine hif_T ?_; conv => whnf); try (refine hcut.go ?_; conv => whnf))
      ((refine hcall_own [(0, 46)]  ?_; (conv => whnf); refine ⟨_, _,  spec_own l hl, ⟨⟨⟨rfl, rfl⟩, trivial⟩, rfl, rfl, rfl⟩, ?_⟩; conv => whnf); try (refine hcut.go ?_; conv => whnf))
      exact hfin_of [(0, some 46), (1, some 900), (2, none)] rfl rfl trivial rfl rfl ⟨⟨rfl, .inl ⟨46, rfl, rfl⟩⟩, ⟨rfl, .inl ⟨900, rfl, rfl⟩⟩, ⟨rfl, .inr ⟨rfl, rfl⟩⟩, trivial⟩
  · rw [if_neg k1]
    ((refine hif_F ?_; conv => whnf); try (refine hcut.go ?_; conv => whnf))
    ((refine hif_F ?_; conv => whnf); try (refine hcut.go ?_; conv => whnf))
    ((refine hcall_own [(0, 50)]  ?_; (conv => whnf); refine ⟨_, _,  spec_own l hl, ⟨⟨⟨rfl, rfl⟩, trivial⟩, rfl, rfl, rfl⟩, ?_⟩; conv => whnf); try (refine hcut.go ?_; conv => whnf))
    refine ⟨{ x : List Sent × List Sent × List Sent × List Int × Int // SI l c n paths.toNat cum x }, fun | ⟨(a, b, out, come, high), _⟩ => hs 165 [(6, .ptr 6 0), (8, .own 901), (10, .own 900), (11, hnil), (12, i64 n), (14, i64 high), (50, .own 902), (51, i64 l.length), (52, i64 a.length)] [(6, .live (.cells 29 c.cells)), (900, intB come), (901, sentB out), (902, sentB l)], fun x => x.1.2.1.length, ⟨([], l, [], List.replicate paths.toNat 0, 0), rfl, rfl, rfl, rfl, Int.le_refl _, by dsimp only; simp; omega⟩, ?_, ?_⟩
    · exact (hle_Q [(6, some 6), (900, some 900), (901, none), (902, some 50)])
    rintro ⟨⟨a, b, out, come, high⟩, hi⟩
    have h := hi.split
    dsimp only at h
    cases b with
    | nil =>
      have hz := zip_nil h
      obtain ⟨h1, h2, h3, h4, h5, h6⟩ := hi
      dsimp only at h1 h2 h3 h4 h5 h6
      rw [List.append_nil] at h1
      subst h1
      rw [← h3, ← h4, ← h2]
      have hlen : out.length ≤ l.length := by rw [h2, left, List.length_map]; exact List.length_filter_le _ _
      conv => whnf
      ((refine hif_F ?_; conv => whnf); try (refine hcut.go ?_; conv => whnf))
      refine ⟨{ x : List Sent × List Sent // out = x.1 ++ x.2 }, fun | ⟨(a, b), _⟩ => hs 165 [(8, .own 901), (10, .own 900), (11, .own 903), (12, i64 n), (14, i64 high), (118, i64 out.length), (119, i64 a.length)] [(900, intB come), (901, sentB (a.map (age high) ++ b)), (903, intB (lost high a))], fun x => x.1.2.length, ⟨([], out), rfl⟩, ?_, ?_⟩
      · exact (hle_Q [(900, some 900), (901, some 901), (903, none)])
      rintro ⟨⟨a, b⟩, h⟩
      dsimp only at h
      cases b with
      | nil =>
        have hz := zip_nil h
        rw [List.append_nil] at h
        subst h
        conv => whnf
        ((refine hif_F ?_; conv => whnf); try (refine hcut.go ?_; conv => whnf))
        exact hfin_of [(0, some 901), (1, some 900), (2, some 903)] rfl rfl trivial rfl rfl ⟨⟨rfl, .inl ⟨901, rfl, by exact row_eqs (by rw [List.append_nil])⟩⟩, ⟨rfl, .inl ⟨900, rfl, rfl⟩⟩, ⟨rfl, .inl ⟨903, rfl, rfl⟩⟩, trivial⟩
      | cons s b =>
        have hz := zip_cons h
        have ea : (a ++ [s]).map (age high) ++ b = a.map (age high) ++ age high s :: b := by simp
        have el : lost high (a ++ [s]) = lost high a ++ lost high [s] := by simp [lost]
        have hln : (lost high a).length ≤ a.length := by rw [lost, List.length_map]; exact List.length_filter_le _ _
        conv => whnf
        ((refine hif_T ?_; conv => whnf); try (refine hcut.go ?_; conv => whnf))
        (try (refine hcut.go ?_; conv => whnf))
        ((refine hobl_O ?_; conv => whnf); try (refine hcut.go ?_; conv => whnf))
        refine hrow_mid (a := a.map (age high)) (b := b) (s := s) rfl (by simp) ?_; conv => whnf
        by_cases c1 : s.state = 1
        · ((refine hif_F ?_; conv => whnf); try (refine hcut.go ?_; conv => whnf))
          refine hrow_mid (a := a.map (age high)) (b := b) (s := s) rfl (by simp) ?_; conv => whnf
          by_cases c2 : s.number < high
          · ((refine hif_F ?_; conv => whnf); try (refine hcut.go ?_; conv => whnf))
            refine hrow_mid (a := a.map (age high)) (b := b) (s := s) rfl (by simp) ?_; conv => whnf
            ((first | refine hwrap_W ?_ | refine hwrap_raw ?_); (conv => whnf); try (refine hcut.go ?_; conv => whnf))
            refine hrow_mid (a := a.map (age high)) (b := b) (s := s) rfl (by simp) ?_; conv => whnf
            refine hrow_set (by simp) (by simp) ?_; conv => whnf
            by_cases c3 : W (s.missed + 1) ≥ 3
            · have e1 : age high s = { s with missed := W (s.missed + 1), state := 3 } := by rw [age, if_pos ⟨c1, c2⟩, if_pos c3]
              have e2 : lost high [s] = [s.number] := by simp [lost, c1, c2, c3]
              ((refine hif_T ?_; conv => whnf); try (refine hcut.go ?_; conv => whnf))
              refine hrow_set (by simp) (by simp) ?_; conv => whnf
              refine hrow_set (by simp) (by simp) ?_; conv => whnf
              refine hobl_intro (c := (((lost high a).map fun n => [pi n]).length + 1) * 8 ≤ 140737488355328) (by rw [List.length_map]; omega) ?_; conv => whnf
              ((refine hwrap_F ?_; conv => whnf); try (refine hcut.go ?_; conv => whnf))
              exact ⟨⟨(a ++ [s], b), zip_next h⟩, (hle_Q [(900, some 900), (901, some 901), (903, some 159)] (by repeat' (first | exact trivial | exact rfl | (refine ⟨⟨rfl, ?_⟩, ?_⟩) | (refine ⟨rfl, ?_⟩) | ((rw [ea]; exact (row_set2 (by simp) (by rw [e1]; rfl)).symm)) | ((rw [el, e2]; exact (row_snoc (f := fun n => [pi n]) rfl).symm)) | (simp; done) | (simp; rfl))) (by repeat' (first | exact trivial | exact rfl | exact .inl rfl | exact .inr rfl | (refine ⟨⟨rfl, .inl ⟨_, rfl, ?_⟩⟩, ?_⟩) | (refine ⟨⟨rfl, _, rfl, ?_⟩, ?_⟩) | (refine ⟨⟨rfl, .inr ⟨rfl, ?_⟩⟩, ?_⟩) | (refine ⟨rfl, ?_⟩) | ((rw [ea]; exact (row_set2 (by simp) (by rw [e1]; rfl)).symm)) | ((rw [el, e2]; exact (row_snoc (f := fun n => [pi n]) rfl).symm)) | (simp; done) | (simp; rfl)))), by simp⟩
            · have e1 : age high s = { s with missed := W (s.missed + 1) } := by rw [age, if_pos ⟨c1, c2⟩, if_neg c3]
              have e2 : lost high [s] = [] := by simp [lost, c1, c2, c3]
              ((refine hif_F ?_; conv => whnf); try (refine hcut.go ?_; conv => whnf))
              ((refine hwrap_F ?_; conv => whnf); try (refine hcut.go ?_; conv => whnf))
              exact ⟨⟨(a ++ [s], b), zip_next h⟩, (hle_Q [(900, some 900), (901, some 901), (903, some 903)] (by repeat' (first | exact trivial | exact rfl | (refine ⟨⟨rfl, ?_⟩, ?_⟩) | (refine ⟨rfl, ?_⟩) | ((rw [ea]; exact (row_set (by simp) (by rw [e1]; rfl)).symm)) | ((rw [el, e2, List.append_nil]; rfl)) | (simp; done) | (simp; rfl))) (by repeat' (first | exact trivial | exact rfl | exact .inl rfl | exact .inr rfl | (refine ⟨⟨rfl, .inl ⟨_, rfl, ?_⟩⟩, ?_⟩) | (refine ⟨⟨rfl, _, rfl, ?_⟩, ?_⟩) | (refine ⟨⟨rfl, .inr ⟨rfl, ?_⟩⟩, ?_⟩) | (refine ⟨rfl, ?_⟩) | ((rw [ea]; exact (row_set (by simp) (by rw [e1]; rfl)).symm)) | ((rw [el, e2, List.append_nil]; rfl)) | (simp; done) | (simp; rfl)))), by simp⟩
          · have e1 : age high s = s := by rw [age, if_neg fun h => c2 h.2]
            have e2 : lost high [s] = [] := by simp [lost, c2]
            ((refine hif_T ?_; conv => whnf); try (refine hcut.go ?_; conv => whnf))
            ((refine hwrap_F ?_; conv => whnf); try (refine hcut.go ?_; conv => whnf))
            exact ⟨⟨(a ++ [s], b), zip_next h⟩, (hle_Q [(900, some 900), (901, some 901), (903, some 903)] (by repeat' (first | exact trivial | exact rfl | (refine ⟨⟨rfl, ?_⟩, ?_⟩) | (refine ⟨rfl, ?_⟩) | ((rw [ea, e1]; rfl)) | ((rw [el, e2, List.append_nil]; rfl)) | (simp; done) | (simp; rfl))) (by repeat' (first | exact trivial | exact rfl | exact .inl rfl | exact .inr rfl | (refine ⟨⟨rfl, .inl ⟨_, rfl, ?_⟩⟩, ?_⟩) | (refine ⟨⟨rfl, _, rfl, ?_⟩, ?_⟩) | (refine ⟨⟨rfl, .inr ⟨rfl, ?_⟩⟩, ?_⟩) | (refine ⟨rfl, ?_⟩) | ((rw [ea, e1]; rfl)) | ((rw [el, e2, List.append_nil]; rfl)) | (simp; done) | (simp; rfl)))), by simp⟩
        · have e1 : age high s = s := by rw [age, if_neg fun h => c1 h.1]
          have e2 : lost high [s] = [] := by simp [lost, c1]
          ((refine hif_T ?_; conv => whnf); try (refine hcut.go ?_; conv => whnf))
          ((refine hwrap_F ?_; conv => whnf); try (refine hcut.go ?_; conv => whnf))
          exact ⟨⟨(a ++ [s], b), zip_next h⟩, (hle_Q [(900, some 900), (901, some 901), (903, some 903)] (by repeat' (first | exact trivial | exact rfl | (refine ⟨⟨rfl, ?_⟩, ?_⟩) | (refine ⟨rfl, ?_⟩) | ((rw [ea, e1]; rfl)) | ((rw [el, e2, List.append_nil]; rfl)) | (simp; done) | (simp; rfl))) (by repeat' (first | exact trivial | exact rfl | exact .inl rfl | exact .inr rfl | (refine ⟨⟨rfl, .inl ⟨_, rfl, ?_⟩⟩, ?_⟩) | (refine ⟨⟨rfl, _, rfl, ?_⟩, ?_⟩) | (refine ⟨⟨rfl, .inr ⟨rfl, ?_⟩⟩, ?_⟩) | (refine ⟨rfl, ?_⟩) | ((rw [ea, e1]; rfl)) | ((rw [el, e2, List.append_nil]; rfl)) | (simp; done) | (simp; rfl)))), by simp⟩
    | cons s b =>
      have hz := zip_cons h
      obtain ⟨hnum, hpa0, hpa1⟩ := hr.at h
      have hnx := hi.next hnum hc0
      have hhi := hi.h1
      have hh0 := hi.h0
      have hcl := hi.come
      have hol : out.length ≤ a.length := by have := hi.out; dsimp only at this; rw [this, left, List.length_map]; exact List.length_filter_le _ _
      dsimp only at hhi hh0 hcl
      have hcl : come.length = paths.toNat := by rw [hcl, comeOf_len]
      have hby := hl.bytes
      rw [h, total_app, total_cons] at hby
      conv => whnf
      ((refine hif_T ?_; conv => whnf); try (refine hcut.go ?_; conv => whnf))
      ((refine hobl_O ?_; conv => whnf); try (refine hcut.go ?_; conv => whnf))
      refine hrow_mid h rfl ?_; conv => whnf
      by_cases g : s.number > n
      · ((refine hif_T ?_; conv => whnf); try (refine hcut.go ?_; conv => whnf))
        ((first | refine hwrap_W ?_ | refine hwrap_raw ?_); (conv => whnf); try (refine hcut.go ?_; conv => whnf))
        ((refine hcall_lend ?_; (conv => whnf); refine ⟨_, spec_has c.spans _ (by omega), rfl, ?_⟩; conv => whnf); try (refine hcut.go ?_; conv => whnf))
        by_cases hh : has c.spans (W (s.number - n)) = true
        · have hk : here c n s = true := by rw [here, hh]; simp
          ((refine hif_F ?_; conv => whnf); try (refine hcut.go ?_; conv => whnf))
          have eA : HSlot.live (.row 3 1 ((come.map fun n => [pi n]).set s.path.toNat [pi (W (come[s.path.toNat]'(by omega) + ((s.chunk.data.map bRow).length : Int)))])) = intB (addAt come s.path s.chunk.data.length) := by
            rw [addAt, intB, List.map_set, List.getElem?_eq_getElem (by omega), Option.getD_some, List.length_map]
          by_cases q : s.state = 1 ∨ s.state = 3
          · have hcm : comes c n s = true := by rw [comes, hk, Bool.true_and]; rcases q with q | q <;> rw [q] <;> rfl
            rw [if_pos g, come1, if_pos hcm, high1, if_pos hcm, turn, if_pos hcm] at hnx
            have emx : (if s.number > high then s.number else high) = s.number := by split <;> omega
            by_cases q1 : s.state = 1
            · ((refine hif_T ?_; conv => whnf); try (refine hcut.go ?_; conv => whnf))
              (repeat' (first | ((refine hif_T ?_; conv => whnf); try (refine hcut.go ?_; conv => whnf)) | ((refine hif_F ?_; conv => whnf); try (refine hcut.go ?_; conv => whnf))))
              ((refine hobl_O ?_; conv => whnf); try (refine hcut.go ?_; conv => whnf))
              refine hrow_at s.path.toNat (by omega) (by omega) ?_; conv => whnf
              ((first | refine hwrap_W ?_ | refine hwrap_raw ?_); (conv => whnf); try (refine hcut.go ?_; conv => whnf))
              ((refine hobl_O ?_; conv => whnf); try (refine hcut.go ?_; conv => whnf))
              refine hrow_at s.path.toNat (by omega) (by omega) ?_; conv => whnf
              ((refine hdraw_intro ?_ ?_; (· kernel_rfl); conv => whnf); try (refine hcut.go ?_; conv => whnf))
              ((refine hif_T ?_; conv => whnf); try (refine hcut.go ?_; conv => whnf))
              refine hobl_intro (c := ((out.map Sent.row).length + 1) * 200 ≤ 140737488355328) (by (first | omega | (simp only [List.length_map, List.length_append, List.length_take, List.length_drop, List.length_cons, List.length_nil] <;> omega) | (simp <;> omega))) ?_; conv => whnf
              ((refine hwrap_F ?_; conv => whnf); try (refine hcut.go ?_; conv => whnf))
              exact ⟨⟨_, hnx⟩, (hle_Q [(6, some 6), (900, some 900), (901, some 115), (902, some 902)] (by repeat' (first | exact trivial | exact rfl | (refine ⟨⟨rfl, ?_⟩, ?_⟩) | (refine ⟨rfl, ?_⟩) | (exact (row_snoc (f := Sent.row) rfl).symm) | (exact eA) | (exact i64_eq emx.symm) | (simp; done) | (simp; rfl))) (by repeat' (first | exact trivial | exact rfl | exact .inl rfl | exact .inr rfl | (refine ⟨⟨rfl, .inl ⟨_, rfl, ?_⟩⟩, ?_⟩) | (refine ⟨⟨rfl, _, rfl, ?_⟩, ?_⟩) | (refine ⟨⟨rfl, .inr ⟨rfl, ?_⟩⟩, ?_⟩) | (refine ⟨rfl, ?_⟩) | (exact (row_snoc (f := Sent.row) rfl).symm) | (exact eA) | (exact i64_eq emx.symm) | (simp; done) | (simp; rfl)))), by simp⟩
            · ((refine hif_F ?_; conv => whnf); try (refine hcut.go ?_; conv => whnf))
              ((refine hif_T ?_; conv => whnf); try (refine hcut.go ?_; conv => whnf))
              (repeat' (first | ((refine hif_T ?_; conv => whnf); try (refine hcut.go ?_; conv => whnf)) | ((refine hif_F ?_; conv => whnf); try (refine hcut.go ?_; conv => whnf))))
              ((refine hobl_O ?_; conv => whnf); try (refine hcut.go ?_; conv => whnf))
              refine hrow_at s.path.toNat (by omega) (by omega) ?_; conv => whnf
              ((first | refine hwrap_W ?_ | refine hwrap_raw ?_); (conv => whnf); try (refine hcut.go ?_; conv => whnf))
              ((refine hobl_O ?_; conv => whnf); try (refine hcut.go ?_; conv => whnf))
              refine hrow_at s.path.toNat (by omega) (by omega) ?_; conv => whnf
              ((refine hdraw_intro ?_ ?_; (· kernel_rfl); conv => whnf); try (refine hcut.go ?_; conv => whnf))
              ((refine hif_T ?_; conv => whnf); try (refine hcut.go ?_; conv => whnf))
              refine hobl_intro (c := ((out.map Sent.row).length + 1) * 200 ≤ 140737488355328) (by (first | omega | (simp only [List.length_map, List.length_append, List.length_take, List.length_drop, List.length_cons, List.length_nil] <;> omega) | (simp <;> omega))) ?_; conv => whnf
              ((refine hwrap_F ?_; conv => whnf); try (refine hcut.go ?_; conv => whnf))
              exact ⟨⟨_, hnx⟩, (hle_Q [(6, some 6), (900, some 900), (901, some 115), (902, some 902)] (by repeat' (first | exact trivial | exact rfl | (refine ⟨⟨rfl, ?_⟩, ?_⟩) | (refine ⟨rfl, ?_⟩) | (exact (row_snoc (f := Sent.row) rfl).symm) | (exact eA) | (exact i64_eq emx.symm) | (simp; done) | (simp; rfl))) (by repeat' (first | exact trivial | exact rfl | exact .inl rfl | exact .inr rfl | (refine ⟨⟨rfl, .inl ⟨_, rfl, ?_⟩⟩, ?_⟩) | (refine ⟨⟨rfl, _, rfl, ?_⟩, ?_⟩) | (refine ⟨⟨rfl, .inr ⟨rfl, ?_⟩⟩, ?_⟩) | (refine ⟨rfl, ?_⟩) | (exact (row_snoc (f := Sent.row) rfl).symm) | (exact eA) | (exact i64_eq emx.symm) | (simp; done) | (simp; rfl)))), by simp⟩
          · have hcm : comes c n s = false := by
              rw [comes, hk, Bool.true_and]
              simp only [not_or] at q
              simp [q.1, q.2]
            rw [if_pos g, come1, if_neg (by rw [hcm]; decide), high1, if_neg (by rw [hcm]; decide), turn, if_neg (by rw [hcm]; decide)] at hnx
            have q1 : s.state ≠ 1 := fun h => q (.inl h)
            have q2 : s.state ≠ 3 := fun h => q (.inr h)
            ((refine hif_F ?_; conv => whnf); try (refine hcut.go ?_; conv => whnf))
            ((refine hif_F ?_; conv => whnf); try (refine hcut.go ?_; conv => whnf))
            ((refine hif_T ?_; conv => whnf); try (refine hcut.go ?_; conv => whnf))
            refine hobl_intro (c := ((out.map Sent.row).length + 1) * 200 ≤ 140737488355328) (by (first | omega | (simp only [List.length_map, List.length_append, List.length_take, List.length_drop, List.length_cons, List.length_nil] <;> omega) | (simp <;> omega))) ?_; conv => whnf
            ((refine hwrap_F ?_; conv => whnf); try (refine hcut.go ?_; conv => whnf))
            exact ⟨⟨_, hnx⟩, (hle_Q [(6, some 6), (900, some 900), (901, some 115), (902, some 902)] (by repeat' (first | exact trivial | exact rfl | (refine ⟨⟨rfl, ?_⟩, ?_⟩) | (refine ⟨rfl, ?_⟩) | (exact (row_snoc (f := Sent.row) rfl).symm) | (exact eA) | (exact i64_eq emx.symm) | (simp; done) | (simp; rfl))) (by repeat' (first | exact trivial | exact rfl | exact .inl rfl | exact .inr rfl | (refine ⟨⟨rfl, .inl ⟨_, rfl, ?_⟩⟩, ?_⟩) | (refine ⟨⟨rfl, _, rfl, ?_⟩, ?_⟩) | (refine ⟨⟨rfl, .inr ⟨rfl, ?_⟩⟩, ?_⟩) | (refine ⟨rfl, ?_⟩) | (exact (row_snoc (f := Sent.row) rfl).symm) | (exact eA) | (exact i64_eq emx.symm) | (simp; done) | (simp; rfl)))), by simp⟩
        · have hk : here c n s = false := by rw [here]; simp [hh]; omega
          have hcm : comes c n s = false := by rw [comes, hk]; rfl
          rw [if_pos g, come1, if_neg (by rw [hcm]; decide), high1, if_neg (by rw [hcm]; decide), turn, if_neg (by rw [hcm]; decide)] at hnx
          refine hif_true (by simpa using hh) ?_; conv => whnf
          refine hobl_intro (c := ((out.map Sent.row).length + 1) * 200 ≤ 140737488355328) (by (first | omega | (simp only [List.length_map, List.length_append, List.length_take, List.length_drop, List.length_cons, List.length_nil] <;> omega) | (simp <;> omega))) ?_; conv => whnf
          ((refine hwrap_F ?_; conv => whnf); try (refine hcut.go ?_; conv => whnf))
          exact ⟨⟨_, hnx⟩, (hle_Q [(6, some 6), (900, some 900), (901, some 73), (902, some 902)] (by repeat' (first | exact trivial | exact rfl | (refine ⟨⟨rfl, ?_⟩, ?_⟩) | (refine ⟨rfl, ?_⟩) | (exact (row_snoc (f := Sent.row) rfl).symm) | (simp; done) | (simp; rfl))) (by repeat' (first | exact trivial | exact rfl | exact .inl rfl | exact .inr rfl | (refine ⟨⟨rfl, .inl ⟨_, rfl, ?_⟩⟩, ?_⟩) | (refine ⟨⟨rfl, _, rfl, ?_⟩, ?_⟩) | (refine ⟨⟨rfl, .inr ⟨rfl, ?_⟩⟩, ?_⟩) | (refine ⟨rfl, ?_⟩) | (exact (row_snoc (f := Sent.row) rfl).symm) | (simp; done) | (simp; rfl)))), by simp⟩
      · have hk : here c n s = true := by rw [here]; simp; left; omega
        ((refine hif_F ?_; conv => whnf); try (refine hcut.go ?_; conv => whnf))
        have eA : HSlot.live (.row 3 1 ((come.map fun n => [pi n]).set s.path.toNat [pi (W (come[s.path.toNat]'(by omega) + ((s.chunk.data.map bRow).length : Int)))])) = intB (addAt come s.path s.chunk.data.length) := by
          rw [addAt, intB, List.map_set, List.getElem?_eq_getElem (by omega), Option.getD_some, List.length_map]
        by_cases q : s.state = 1 ∨ s.state = 3
        · have hcm : comes c n s = true := by rw [comes, hk, Bool.true_and]; rcases q with q | q <;> rw [q] <;> rfl
          rw [if_neg g, come1, if_pos hcm, high1, if_pos hcm, List.append_nil] at hnx
          have emx : (if s.number > high then s.number else high) = s.number := by split <;> omega
          by_cases q1 : s.state = 1
          · ((refine hif_T ?_; conv => whnf); try (refine hcut.go ?_; conv => whnf))
            (repeat' (first | ((refine hif_T ?_; conv => whnf); try (refine hcut.go ?_; conv => whnf)) | ((refine hif_F ?_; conv => whnf); try (refine hcut.go ?_; conv => whnf))))
            ((refine hobl_O ?_; conv => whnf); try (refine hcut.go ?_; conv => whnf))
            refine hrow_at s.path.toNat (by omega) (by omega) ?_; conv => whnf
            ((first | refine hwrap_W ?_ | refine hwrap_raw ?_); (conv => whnf); try (refine hcut.go ?_; conv => whnf))
            ((refine hobl_O ?_; conv => whnf); try (refine hcut.go ?_; conv => whnf))
            refine hrow_at s.path.toNat (by omega) (by omega) ?_; conv => whnf
            ((refine hdraw_intro ?_ ?_; (· kernel_rfl); conv => whnf); try (refine hcut.go ?_; conv => whnf))
            ((refine hif_F ?_; conv => whnf); try (refine hcut.go ?_; conv => whnf))
            ((refine hwrap_F ?_; conv => whnf); try (refine hcut.go ?_; conv => whnf))
            exact ⟨⟨_, hnx⟩, (hle_Q [(6, some 6), (900, some 900), (901, some 901), (902, some 902)] (by repeat' (first | exact trivial | exact rfl | (refine ⟨⟨rfl, ?_⟩, ?_⟩) | (refine ⟨rfl, ?_⟩) | (exact eA) | (exact i64_eq emx.symm) | (simp; done) | (simp; rfl))) (by repeat' (first | exact trivial | exact rfl | exact .inl rfl | exact .inr rfl | (refine ⟨⟨rfl, .inl ⟨_, rfl, ?_⟩⟩, ?_⟩) | (refine ⟨⟨rfl, _, rfl, ?_⟩, ?_⟩) | (refine ⟨⟨rfl, .inr ⟨rfl, ?_⟩⟩, ?_⟩) | (refine ⟨rfl, ?_⟩) | (exact eA) | (exact i64_eq emx.symm) | (simp; done) | (simp; rfl)))), by simp⟩
          · ((refine hif_F ?_; conv => whnf); try (refine hcut.go ?_; conv => whnf))
            ((refine hif_T ?_; conv => whnf); try (refine hcut.go ?_; conv => whnf))
            (repeat' (first | ((refine hif_T ?_; conv => whnf); try (refine hcut.go ?_; conv => whnf)) | ((refine hif_F ?_; conv => whnf); try (refine hcut.go ?_; conv => whnf))))
            ((refine hobl_O ?_; conv => whnf); try (refine hcut.go ?_; conv => whnf))
            refine hrow_at s.path.toNat (by omega) (by omega) ?_; conv => whnf
            ((first | refine hwrap_W ?_ | refine hwrap_raw ?_); (conv => whnf); try (refine hcut.go ?_; conv => whnf))
            ((refine hobl_O ?_; conv => whnf); try (refine hcut.go ?_; conv => whnf))
            refine hrow_at s.path.toNat (by omega) (by omega) ?_; conv => whnf
            ((refine hdraw_intro ?_ ?_; (· kernel_rfl); conv => whnf); try (refine hcut.go ?_; conv => whnf))
            ((refine hif_F ?_; conv => whnf); try (refine hcut.go ?_; conv => whnf))
            ((refine hwrap_F ?_; conv => whnf); try (refine hcut.go ?_; conv => whnf))
            exact ⟨⟨_, hnx⟩, (hle_Q [(6, some 6), (900, some 900), (901, some 901), (902, some 902)] (by repeat' (first | exact trivial | exact rfl | (refine ⟨⟨rfl, ?_⟩, ?_⟩) | (refine ⟨rfl, ?_⟩) | (exact eA) | (exact i64_eq emx.symm) | (simp; done) | (simp; rfl))) (by repeat' (first | exact trivial | exact rfl | exact .inl rfl | exact .inr rfl | (refine ⟨⟨rfl, .inl ⟨_, rfl, ?_⟩⟩, ?_⟩) | (refine ⟨⟨rfl, _, rfl, ?_⟩, ?_⟩) | (refine ⟨⟨rfl, .inr ⟨rfl, ?_⟩⟩, ?_⟩) | (refine ⟨rfl, ?_⟩) | (exact eA) | (exact i64_eq emx.symm) | (simp; done) | (simp; rfl)))), by simp⟩
        · have hcm : comes c n s = false := by
            rw [comes, hk, Bool.true_and]
            simp only [not_or] at q
            simp [q.1, q.2]
          rw [if_neg g, come1, if_neg (by rw [hcm]; decide), high1, if_neg (by rw [hcm]; decide), List.append_nil] at hnx
          have q1 : s.state ≠ 1 := fun h => q (.inl h)
          have q2 : s.state ≠ 3 := fun h => q (.inr h)
          ((refine hif_F ?_; conv => whnf); try (refine hcut.go ?_; conv => whnf))
          ((refine hif_F ?_; conv => whnf); try (refine hcut.go ?_; conv => whnf))
          ((refine hif_F ?_; conv => whnf); try (refine hcut.go ?_; conv => whnf))
          ((refine hwrap_F ?_; conv => whnf); try (refine hcut.go ?_; conv => whnf))
          exact ⟨⟨_, hnx⟩, (hle_Q [(6, some 6), (900, some 900), (901, some 901), (902, some 902)] (by repeat' (first | exact trivial | exact rfl | (refine ⟨⟨rfl, ?_⟩, ?_⟩) | (refine ⟨rfl, ?_⟩) | (exact eA) | (exact i64_eq emx.symm) | (simp; done) | (simp; rfl))) (by repeat' (first | exact trivial | exact rfl | exact .inl rfl | exact .inr rfl | (refine ⟨⟨rfl, .inl ⟨_, rfl, ?_⟩⟩, ?_⟩) | (refine ⟨⟨rfl, _, rfl, ?_⟩, ?_⟩) | (refine ⟨⟨rfl, .inr ⟨rfl, ?_⟩⟩, ?_⟩) | (refine ⟨rfl, ?_⟩) | (exact eA) | (exact i64_eq emx.symm) | (simp; done) | (simp; rfl)))), by simp⟩
end Sco
end Go.HL
