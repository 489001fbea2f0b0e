/- The sender: a sack is heard. -/
import Derived.Test.YticmofoeecjnhaaSndT
namespace Go.HL
open Go.Proofs
namespace Snd
open Ser
set_option maxHeartbeats 8000000
set_option maxRecDepth 100000
set_option linter.unusedSimpArgs false
def comeP (ps : List Path) (part : Int) (moved : Bool) (A : List Int) : List Path := ps.mapIdx fun i p => if A[i]?.getD 0 > 0 then Paths.acked p (A[i]?.getD 0) part moved else p
theorem comeP_at {ps : List Path} {part : Int} {moved : Bool} {A : List Int} : (comeP ps part moved A)[A.length]? = ps[A.length]? := by
  rw [comeP, List.getElem?_mapIdx, List.getElem?_eq_none (Nat.le_refl _)]
  cases ps[A.length]? <;> simp
theorem comeP_snoc {ps : List Path} {part : Int} {moved : Bool} {A : List Int} {n : Int} {p : Path} (hp : ps[A.length]? = some p) :
    comeP ps part moved (A ++ [n]) = (comeP ps part moved A).set A.length (if n > 0 then Paths.acked p n part moved else p) := by
  apply List.ext_getElem?
  intro i
  rw [List.getElem?_set, comeP, comeP, List.getElem?_mapIdx, List.getElem?_mapIdx, List.length_mapIdx]
  have hl := (List.getElem?_eq_some_iff.1 hp).1
  by_cases hi : A.length = i
  · subst hi
    rw [if_pos rfl, if_pos hl, hp]
    simp
  · rw [if_neg hi]
    rcases Nat.lt_or_ge i A.length with h | h
    · rw [List.getElem?_append_left h]
    · rw [List.getElem?_eq_none (l := A ++ [n]) (by simp; omega), List.getElem?_eq_none (l := A) h]
theorem sacked_sized {l : List Sent} (h : Sco.Sized l) (cum : Int) (c : Chunk) (paths : Int) : Sco.Sized (Sco.sack l cum c paths).1 := by
  have hf : ∀ (p : Sent → Bool) (l : List Sent), Sco.total (l.filter p) ≤ Sco.total l := by
    intro p l
    induction l with
    | nil => exact Nat.le_refl _
    | cons x l ih =>
      rw [List.filter_cons, Sco.total_cons]
      split
      · rw [Sco.total_cons]; omega
      · omega
  have hm : ∀ (f : Sent → Sent) (l : List Sent), (∀ x, (f x).chunk = x.chunk) → Sco.total (l.map f) = Sco.total l := by
    intro f l hf
    simp only [Sco.total, List.map_map]
    congr 1
    exact List.map_congr_left fun s _ => by simp [hf]
  unfold Sco.sack
  split
  · exact h
  · refine ⟨?_, ?_⟩
    · have := List.length_filter_le (fun s : Sent => decide (s.number > near cum c.tag)) l
      have := h.len
      simp only [Sco.left, List.length_map]; omega
    · dsimp only
      rw [hm _ _ (fun x => by unfold Sco.age; (repeat' split) <;> rfl), Sco.left, hm _ _ (fun x => by unfold Sco.turn; split <;> rfl)]
      exact Nat.lt_of_le_of_lt (hf _ _) h.bytes
def heardT (s : Sender) (c : Chunk) (k : List Sent × Int × List Int × List Int) : Sender := flights { s with out := k.1, cum := k.2.1, room := c.room, paths := comeP s.paths s.config.part (decide (k.2.1 > s.cum)) k.2.2.1 }
def heardU (part : Int) (t : Sender) (lost : List Int) : Sender := match lost.getLast? with
  | none => t
  | some z => if z > t.recover then { t with paths := setAt t.paths (choose t) fun p => Paths.halved p part, recover := W (t.next - 1) } else t
def heardV (moved : Bool) (u : Sender) : Sender := if moved = true ∧ (Sco.point u.out u.cum).1 > u.cum then { u with forward := true } else u
theorem heard_eq (s : Sender) (c : Chunk) : heard s c = settle (heardV (decide ((Sco.sack s.out s.cum c s.paths.length).2.1 > s.cum)) (heardU s.config.part (heardT s c (Sco.sack s.out s.cum c s.paths.length)) (Sco.sack s.out s.cum c s.paths.length).2.2.2)) := rfl
def upS (t : Sender) (part : Int) (w : Path) : Sender := { t with paths := t.paths.set (choose t) (Paths.halved w part), recover := W (t.next - 1) }
theorem Fit.fwd {s : Sender} (h : Fit s) : Fit { s with forward := true } := ⟨h.queue, h.had, h.out, h.paths, h.mids, h.fates, h.data⟩
theorem Fit.up {s : Sender} (h : Fit s) {part : Int} {w : Path} : Fit (upS s part w) := ⟨h.queue, h.had, h.out, by show (s.paths.set _ _).length < _; rw [List.length_set]; exact h.paths, h.mids, h.fates, h.data⟩
theorem spec_hearo (s : Sender) (c : Chunk) (hs : Fit s) (hr : Sco.Right s.out s.cum s.paths.length) (hsp : c.spans.length < 2 ^ 60) :
    FunOK Try.prog 50 [s.hv, c.hv] noHeap (sndO (hear s c) 0 1 2 3 4 5) (lk .free (sndB (hear s c) 0 1 2 3 4 5 [])) := by
  have hs' := hs
  obtain ⟨h1, h2, h3, h4, h5, h6, h7⟩ := hs
  generalize hT : hear s c = T
  refine funOK_of mixed Try.func50 (by decide) [] (fun _ => .inl rfl) ?_
  conv => whnf
  ((refine hcall_own [(0, 20), (1, 21), (2, 22), (3, 23), (4, 24), (5, 25)]  ?_; (conv => whnf); refine ⟨_, _,  spec_own s hs', ⟨⟨⟨rfl, rfl⟩, ⟨⟨rfl, rfl⟩, ⟨⟨rfl, rfl⟩, ⟨⟨rfl, rfl⟩, ⟨⟨rfl, rfl⟩, ⟨⟨rfl, rfl⟩, trivial⟩⟩⟩⟩⟩⟩, rfl, rfl, rfl⟩, ?_⟩; conv => whnf); try (refine hcut.go ?_; conv => whnf))
  by_cases c1 : c.kind = 2
  case neg =>
    rw [hear, if_pos c1] at hT
    subst hT
    refine hif_true ?_ ?_
    · simpa using c1
    conv => whnf
    exact hfin_of [(0, some 20), (1, some 21), (2, some 22), (3, some 23), (4, some 24), (5, some 25)] rfl rfl trivial rfl rfl ⟨⟨rfl, .inl ⟨20, rfl, rfl⟩⟩, ⟨rfl, .inl ⟨21, rfl, rfl⟩⟩, ⟨rfl, .inl ⟨22, rfl, rfl⟩⟩, ⟨rfl, .inl ⟨23, rfl, rfl⟩⟩, ⟨rfl, .inl ⟨24, rfl, rfl⟩⟩, ⟨rfl, .inl ⟨25, rfl, rfl⟩⟩, trivial⟩
  case pos =>
    rw [hear, if_neg (fun h => h c1)] at hT
    refine hif_false ?_ ?_
    · simpa using c1
    conv => whnf
    repeat (refine hcut.go ?_; conv => whnf)
    have hk := Sco.spec_sackO s.out s.cum c ((s.paths.map Path.row).length : Nat) h3 (by rw [List.length_map]; exact hr) hsp
    by_cases k1 : near s.cum c.tag < s.cum ∨ near s.cum c.tag > s.cum + s.out.length
    case pos =>
      rw [if_pos k1] at hT
      subst hT
      rw [Sco.sack, if_pos k1] at hk
      ((refine hcall_own [(0, 31), (1, 32), (2, 33)]  ?_; (conv => whnf); refine ⟨_, _,  hk, ⟨⟨⟨rfl, rfl⟩, ⟨⟨rfl, rfl⟩, ⟨⟨rfl, rfl⟩, trivial⟩⟩⟩, rfl, rfl, rfl⟩, ?_⟩; conv => whnf); try (refine hcut.go ?_; conv => whnf))
      ((refine hcall_lend ?_; (conv => whnf); refine ⟨_, spec_near s.cum c.tag, rfl, ?_⟩; conv => whnf); try (refine hcut.go ?_; conv => whnf))
      refine hif_true ?_ ?_
      · have : near s.cum c.tag ≠ s.cum := by omega
        simpa using this
      conv => whnf
      exact hfin_of [(0, some 20), (1, some 21), (2, some 22), (3, some 23), (4, some 24), (5, some 25)] rfl rfl trivial rfl rfl ⟨⟨rfl, .inl ⟨20, rfl, rfl⟩⟩, ⟨rfl, .inl ⟨21, rfl, rfl⟩⟩, ⟨rfl, .inl ⟨22, rfl, rfl⟩⟩, ⟨rfl, .inl ⟨23, rfl, rfl⟩⟩, ⟨rfl, .inl ⟨24, rfl, rfl⟩⟩, ⟨rfl, .inl ⟨25, rfl, rfl⟩⟩, trivial⟩
    case neg =>
      rw [if_neg k1, heard_eq] at hT
      have hks := sacked_sized h3 s.cum c s.paths.length
      have hlo : (Sco.sack s.out s.cum c s.paths.length).2.2.2.length ≤ s.out.length := by
        rw [Sco.sack, if_neg k1]
        dsimp only
        rw [Sco.lost, List.length_map]
        refine Nat.le_trans (List.length_filter_le _ _) ?_
        rw [Sco.left, List.length_map]; exact List.length_filter_le _ _
      have hK : (Sco.sack s.out s.cum c ((s.paths.map Path.row).length : Nat)).2.1 = near s.cum c.tag := by rw [Sco.sack, if_neg k1]
      rw [hK] at hk
      ((refine hcall_own [(0, 31), (1, 32), (2, 33)]  ?_; (conv => whnf); refine ⟨_, _,  hk, ⟨⟨⟨rfl, rfl⟩, ⟨⟨rfl, rfl⟩, ⟨⟨rfl, rfl⟩, trivial⟩⟩⟩, rfl, rfl, rfl⟩, ?_⟩; conv => whnf); try (refine hcut.go ?_; conv => whnf))
      ((refine hcall_lend ?_; (conv => whnf); refine ⟨_, spec_near s.cum c.tag, rfl, ?_⟩; conv => whnf); try (refine hcut.go ?_; conv => whnf))
      rw [show (near s.cum c.tag != near s.cum c.tag) = false from bne_self_eq_false _]
      conv => whnf
      ((refine hdraw_intro ?_ ?_; (· kernel_rfl); conv => whnf); try (refine hcut.go ?_; conv => whnf))
      have hcl : (Sco.sack s.out s.cum c ((s.paths.map Path.row).length : Nat)).2.2.1.length = s.paths.length := by
        rw [Sco.sack, if_neg k1]; simp only [Sco.comeOf_len]; rw [List.length_map]; rfl
      have hid : s.paths.mapIdx (fun _ p => p) = s.paths := by apply List.ext_getElem <;> simp
      have epl : (s.paths.map Path.row).length = s.paths.length := List.length_map _
      rw [← epl] at hT hks hlo
      generalize Sco.sack s.out s.cum c ((s.paths.map Path.row).length : Nat) = K at hcl hK hk hT hks hlo ⊢
      rw [hK] at hT
      refine ⟨{ x : List Int × List Int // K.2.2.1 = x.1 ++ x.2 }, fun | ⟨(A, B), _⟩ => hs 133 [(2, .ptr 2 0), (4, .ptr 4 0), (5, .ptr 5 0), (9, .own 907), (10, hbool (decide (near s.cum c.tag > s.cum))), (55, .own 906), (56, i64 s.paths.length), (57, i64 A.length)] ((2, .live (.cells 62 (sndC s (Sch.qs s.queue) (ints s.sched.had) (Sco.sents s.out) (pths s.paths) (ints s.mids) (ints s.fates)))) :: (4, .live (.cells 62 zeroS)) :: (5, .live (.cells 62 (sndC { s with cum := near s.cum c.tag, room := c.room } (.own 900) (.own 901) (.own 902) (.own 903) (.own 904) (.own 905)))) :: sndB { s with out := K.1, paths := comeP s.paths s.config.part (decide (near s.cum c.tag > s.cum)) A } 900 901 902 903 904 905 [(906, rowT K.2.2.1), (907, rowT K.2.2.2)]), fun x => x.1.2.length, ⟨([], K.2.2.1), rfl⟩, ?_, ?_⟩
      · exact (hle_Q [(2, some 2), (4, some 4), (5, some 5), (900, some 20), (901, some 21), (902, some 31), (903, some 23), (904, some 24), (905, some 25), (906, some 32), (907, some 33)] (by repeat' (first | exact trivial | exact rfl | (refine ⟨⟨rfl, ?_⟩, ?_⟩) | (refine ⟨rfl, ?_⟩) | ((exact i64_eq (by rw [List.length_map]; omega))) | ((exact row_eqs (by simp [comeP, hid]))) | (simp; done) | (simp; rfl))) (by repeat' (first | exact trivial | exact rfl | exact .inl rfl | exact .inr rfl | (refine ⟨⟨rfl, .inl ⟨_, rfl, ?_⟩⟩, ?_⟩) | (refine ⟨⟨rfl, _, rfl, ?_⟩, ?_⟩) | (refine ⟨⟨rfl, .inr ⟨rfl, ?_⟩⟩, ?_⟩) | (refine ⟨rfl, ?_⟩) | ((exact i64_eq (by rw [List.length_map]; omega))) | ((exact row_eqs (by simp [comeP, hid]))) | (simp; done) | (simp; rfl))))
      rintro ⟨⟨A, B⟩, h⟩
      dsimp only at h
      conv => whnf
      cases B with
      | cons n B =>
        have hz := zip_cons h
        obtain ⟨p, hp⟩ : ∃ p, s.paths[A.length]? = some p := ⟨_, List.getElem?_eq_getElem (by omega)⟩
        have hpl : A.length < (comeP s.paths s.config.part (decide (near s.cum c.tag > s.cum)) A).length := by rw [comeP, List.length_mapIdx]; omega
        ((refine hif_T ?_; conv => whnf); try (refine hcut.go ?_; conv => whnf))
        refine hobl_intro (by simp; omega) ?_; conv => whnf
        refine hrow_mid (f := fun n : Int => [pi n]) h rfl ?_; conv => whnf
        by_cases d1 : n > 0
        case pos =>
          rw [show decide (n > 0) = true from decide_eq_true d1]
          conv => whnf
          refine hobl_intro ⟨by omega, by rw [List.length_map]; exact_mod_cast hpl⟩ ?_; conv => whnf
          refine hrow_q (comeP_at.trans hp) rfl ?_; conv => whnf
          ((refine hcall_lend ?_; (conv => whnf); refine ⟨_, Paths.spec_acked p n s.config.part (decide (near s.cum c.tag > s.cum)), rfl, ?_⟩; conv => whnf); try (refine hcut.go ?_; conv => whnf))
          refine hobl_intro ⟨by omega, by rw [List.length_map]; exact_mod_cast hpl⟩ ?_; conv => whnf
          refine hrow_q (comeP_at.trans hp) rfl ?_; conv => whnf
          ((refine hdraw_intro ?_ ?_; (· kernel_rfl); conv => whnf); try (refine hcut.go ?_; conv => whnf))
          ((refine hwrap_F ?_; conv => whnf); try (refine hcut.go ?_; conv => whnf))
          exact ⟨⟨(A ++ [n], B), zip_next h⟩, (hle_Q [(2, some 2), (4, some 4), (5, some 5), (900, some 900), (901, some 901), (902, some 902), (903, some 903), (904, some 904), (905, some 905), (906, some 906), (907, some 907)] (by repeat' (first | exact trivial | exact rfl | (refine ⟨⟨rfl, ?_⟩, ?_⟩) | (refine ⟨rfl, ?_⟩) | ((exact (set_row rfl).trans (row_eqs (by rw [comeP_snoc hp, if_pos d1]; rfl)))) | (simp; done) | (simp; rfl))) (by repeat' (first | exact trivial | exact rfl | exact .inl rfl | exact .inr rfl | (refine ⟨⟨rfl, .inl ⟨_, rfl, ?_⟩⟩, ?_⟩) | (refine ⟨⟨rfl, _, rfl, ?_⟩, ?_⟩) | (refine ⟨⟨rfl, .inr ⟨rfl, ?_⟩⟩, ?_⟩) | (refine ⟨rfl, ?_⟩) | ((exact (set_row rfl).trans (row_eqs (by rw [comeP_snoc hp, if_pos d1]; rfl)))) | (simp; done) | (simp; rfl)))), by simp⟩
        case neg =>
          rw [show decide (n > 0) = false from decide_eq_false d1]
          conv => whnf
          ((refine hwrap_F ?_; conv => whnf); try (refine hcut.go ?_; conv => whnf))
          exact ⟨⟨(A ++ [n], B), zip_next h⟩, (hle_Q [(2, some 2), (4, some 4), (5, some 5), (900, some 900), (901, some 901), (902, some 902), (903, some 903), (904, some 904), (905, some 905), (906, some 906), (907, some 907)] (by repeat' (first | exact trivial | exact rfl | (refine ⟨⟨rfl, ?_⟩, ?_⟩) | (refine ⟨rfl, ?_⟩) | ((exact row_eqs (by rw [comeP_snoc hp, if_neg d1, set_self (comeP_at.trans hp)]))) | (simp; done) | (simp; rfl))) (by repeat' (first | exact trivial | exact rfl | exact .inl rfl | exact .inr rfl | (refine ⟨⟨rfl, .inl ⟨_, rfl, ?_⟩⟩, ?_⟩) | (refine ⟨⟨rfl, _, rfl, ?_⟩, ?_⟩) | (refine ⟨⟨rfl, .inr ⟨rfl, ?_⟩⟩, ?_⟩) | (refine ⟨rfl, ?_⟩) | ((exact row_eqs (by rw [comeP_snoc hp, if_neg d1, set_self (comeP_at.trans hp)]))) | (simp; done) | (simp; rfl)))), by simp⟩
      | nil =>
        have hz := zip_nil h
        rw [List.append_nil] at h
        ((refine hif_F ?_; conv => whnf); try (refine hcut.go ?_; conv => whnf))
        have hcp : (comeP s.paths s.config.part (decide (near s.cum c.tag > s.cum)) A).length = s.paths.length := by rw [comeP, List.length_mapIdx]
        ((refine hcall_give [] [(1000000, 5), (1000001, 900), (1000002, 901), (1000003, 902), (1000004, 903), (1000005, 904), (1000006, 905)] [(0, 930), (1, 931), (2, 932), (3, 933), (4, 934), (5, 935)] ?_; (conv => whnf); refine ⟨_, _, _, _, spec_flights0 { s with cum := near s.cum c.tag, room := c.room, out := K.1, paths := comeP s.paths s.config.part (decide (near s.cum c.tag > s.cum)) A } hks (by dsimp only; omega), ⟨rfl, rfl, rfl, ⟨⟨rfl, _, rfl, .inl ⟨rfl, rfl⟩⟩, ⟨⟨rfl, _, rfl, .inl ⟨rfl, rfl⟩⟩, ⟨⟨rfl, _, rfl, .inl ⟨rfl, rfl⟩⟩, ⟨⟨rfl, _, rfl, .inl ⟨rfl, rfl⟩⟩, ⟨⟨rfl, _, rfl, .inl ⟨rfl, rfl⟩⟩, ⟨⟨rfl, _, rfl, .inl ⟨rfl, rfl⟩⟩, ⟨⟨rfl, _, rfl, .inl ⟨rfl, rfl⟩⟩, trivial⟩⟩⟩⟩⟩⟩⟩, ⟨⟨rfl, rfl⟩, ⟨⟨rfl, rfl⟩, ⟨⟨rfl, rfl⟩, ⟨⟨rfl, rfl⟩, ⟨⟨rfl, rfl⟩, ⟨⟨rfl, rfl⟩, trivial⟩⟩⟩⟩⟩⟩, rfl, rfl, rfl⟩, ?_⟩; conv => whnf); try (refine hcut.go ?_; conv => whnf))
        rw [show heardT s c K = flights { s with cum := near s.cum c.tag, room := c.room, out := K.1, paths := comeP s.paths s.config.part (decide (near s.cum c.tag > s.cum)) A } by rw [heardT, hK, h]] at hT
        have hfl : (flights { s with cum := near s.cum c.tag, room := c.room, out := K.1, paths := comeP s.paths s.config.part (decide (near s.cum c.tag > s.cum)) A }).paths.length = s.paths.length := by
          show (List.mapIdx _ _).length = _
          rw [List.length_mapIdx]; exact hcp
        have hfo : (flights { s with cum := near s.cum c.tag, room := c.room, out := K.1, paths := comeP s.paths s.config.part (decide (near s.cum c.tag > s.cum)) A }).out = K.1 := rfl
        have hft : Fit (flights { s with cum := near s.cum c.tag, room := c.room, out := K.1, paths := comeP s.paths s.config.part (decide (near s.cum c.tag > s.cum)) A }) := ⟨h1, h2, hks, by omega, h5, h6, h7⟩
        generalize flights { s with cum := near s.cum c.tag, room := c.room, out := K.1, paths := comeP s.paths s.config.part (decide (near s.cum c.tag > s.cum)) A } = t at hT hfl hfo hft ⊢
        generalize decide (near s.cum c.tag > s.cum) = mv at hT ⊢
        have hpl := hr.p0
        obtain ⟨hch, hch2⟩ := choose_is (s := t) (by omega)
        obtain ⟨w, hw⟩ : ∃ w, t.paths[choose t]? = some w := ⟨_, List.getElem?_eq_getElem hch2⟩
        obtain ⟨K1, K2, K3, K4⟩ := K
        dsimp only at hT hcl hK hks h hz hfo hlo ⊢
        rcases List.eq_nil_or_concat K4 with rfl | ⟨L, z, rfl⟩
        case inl =>
          rw [show heardU s.config.part t [] = t from rfl] at hT
          conv => whnf
          ((refine hdraw_intro ?_ ?_; (· kernel_rfl); conv => whnf); try (refine hcut.go ?_; conv => whnf))
          ((refine hcall_give [] [(1000000, 932)] [(0, 960)] ?_; (conv => whnf); refine ⟨_, _, _, _, Sco.spec_pointG t.out t.cum (by have := hft.out.len; omega), ⟨rfl, rfl, rfl, ⟨⟨rfl, _, rfl, .inl ⟨rfl, rfl⟩⟩, trivial⟩, ⟨⟨rfl, rfl⟩, trivial⟩, rfl, rfl, rfl⟩, ?_⟩; conv => whnf); try (refine hcut.go ?_; conv => whnf))
          cases mv with
          | false =>
            rw [show heardV false t = t from if_neg (fun h => absurd h.1 (by decide))] at hT
            subst hT
            conv => whnf
            ((refine hcall_give [] [(1000000, 5), (1000001, 930), (1000002, 931), (1000003, 932), (1000004, 933), (1000005, 934), (1000006, 935)] [(0, 980), (1, 981), (2, 982), (3, 983), (4, 984), (5, 985)] ?_; (conv => whnf); refine ⟨_, _, _, _, spec_settle t (hft), ⟨rfl, rfl, rfl, ⟨⟨rfl, _, rfl, .inl ⟨rfl, rfl⟩⟩, ⟨⟨rfl, _, rfl, .inl ⟨rfl, rfl⟩⟩, ⟨⟨rfl, _, rfl, .inl ⟨rfl, rfl⟩⟩, ⟨⟨rfl, _, rfl, .inl ⟨rfl, rfl⟩⟩, ⟨⟨rfl, _, rfl, .inl ⟨rfl, rfl⟩⟩, ⟨⟨rfl, _, rfl, .inl ⟨rfl, rfl⟩⟩, ⟨⟨rfl, _, rfl, .inl ⟨rfl, rfl⟩⟩, trivial⟩⟩⟩⟩⟩⟩⟩, ⟨⟨rfl, rfl⟩, ⟨⟨rfl, rfl⟩, ⟨⟨rfl, rfl⟩, ⟨⟨rfl, rfl⟩, ⟨⟨rfl, rfl⟩, ⟨⟨rfl, rfl⟩, trivial⟩⟩⟩⟩⟩⟩, rfl, rfl, rfl⟩, ?_⟩; conv => whnf); try (refine hcut.go ?_; conv => whnf))
            refine hfin_of [(0, some 980), (1, some 981), (2, some 982), (3, some 983), (4, some 984), (5, some 985)] rfl rfl trivial rfl rfl ⟨⟨rfl, .inl ⟨980, rfl, rfl⟩⟩, ⟨rfl, .inl ⟨981, rfl, rfl⟩⟩, ⟨rfl, .inl ⟨982, rfl, rfl⟩⟩, ⟨rfl, .inl ⟨983, rfl, rfl⟩⟩, ⟨rfl, .inl ⟨984, rfl, rfl⟩⟩, ⟨rfl, .inl ⟨985, rfl, rfl⟩⟩, trivial⟩
          | true =>
            conv => whnf
            by_cases e1 : (Sco.point t.out t.cum).1 > t.cum
            case pos =>
              rw [show heardV true t = { t with forward := true } from if_pos ⟨rfl, e1⟩] at hT
              subst hT
              rw [show decide ((Sco.point t.out t.cum).1 > t.cum) = true from decide_eq_true e1]
              conv => whnf
              ((refine hcall_give [] [(1000000, 5), (1000001, 930), (1000002, 931), (1000003, 932), (1000004, 933), (1000005, 934), (1000006, 935)] [(0, 980), (1, 981), (2, 982), (3, 983), (4, 984), (5, 985)] ?_; (conv => whnf); refine ⟨_, _, _, _, spec_settle ({ t with forward := true } : Sender) ((Fit.fwd hft)), ⟨rfl, rfl, rfl, ⟨⟨rfl, _, rfl, .inl ⟨rfl, rfl⟩⟩, ⟨⟨rfl, _, rfl, .inl ⟨rfl, rfl⟩⟩, ⟨⟨rfl, _, rfl, .inl ⟨rfl, rfl⟩⟩, ⟨⟨rfl, _, rfl, .inl ⟨rfl, rfl⟩⟩, ⟨⟨rfl, _, rfl, .inl ⟨rfl, rfl⟩⟩, ⟨⟨rfl, _, rfl, .inl ⟨rfl, rfl⟩⟩, ⟨⟨rfl, _, rfl, .inl ⟨rfl, rfl⟩⟩, trivial⟩⟩⟩⟩⟩⟩⟩, ⟨⟨rfl, rfl⟩, ⟨⟨rfl, rfl⟩, ⟨⟨rfl, rfl⟩, ⟨⟨rfl, rfl⟩, ⟨⟨rfl, rfl⟩, ⟨⟨rfl, rfl⟩, trivial⟩⟩⟩⟩⟩⟩, rfl, rfl, rfl⟩, ?_⟩; conv => whnf); try (refine hcut.go ?_; conv => whnf))
              refine hfin_of [(0, some 980), (1, some 981), (2, some 982), (3, some 983), (4, some 984), (5, some 985)] rfl rfl trivial rfl rfl ⟨⟨rfl, .inl ⟨980, rfl, rfl⟩⟩, ⟨rfl, .inl ⟨981, rfl, rfl⟩⟩, ⟨rfl, .inl ⟨982, rfl, rfl⟩⟩, ⟨rfl, .inl ⟨983, rfl, rfl⟩⟩, ⟨rfl, .inl ⟨984, rfl, rfl⟩⟩, ⟨rfl, .inl ⟨985, rfl, rfl⟩⟩, trivial⟩
            case neg =>
              rw [show heardV true t = t from if_neg (fun h => e1 h.2)] at hT
              subst hT
              rw [show decide ((Sco.point t.out t.cum).1 > t.cum) = false from decide_eq_false e1]
              conv => whnf
              ((refine hcall_give [] [(1000000, 5), (1000001, 930), (1000002, 931), (1000003, 932), (1000004, 933), (1000005, 934), (1000006, 935)] [(0, 980), (1, 981), (2, 982), (3, 983), (4, 984), (5, 985)] ?_; (conv => whnf); refine ⟨_, _, _, _, spec_settle t (hft), ⟨rfl, rfl, rfl, ⟨⟨rfl, _, rfl, .inl ⟨rfl, rfl⟩⟩, ⟨⟨rfl, _, rfl, .inl ⟨rfl, rfl⟩⟩, ⟨⟨rfl, _, rfl, .inl ⟨rfl, rfl⟩⟩, ⟨⟨rfl, _, rfl, .inl ⟨rfl, rfl⟩⟩, ⟨⟨rfl, _, rfl, .inl ⟨rfl, rfl⟩⟩, ⟨⟨rfl, _, rfl, .inl ⟨rfl, rfl⟩⟩, ⟨⟨rfl, _, rfl, .inl ⟨rfl, rfl⟩⟩, trivial⟩⟩⟩⟩⟩⟩⟩, ⟨⟨rfl, rfl⟩, ⟨⟨rfl, rfl⟩, ⟨⟨rfl, rfl⟩, ⟨⟨rfl, rfl⟩, ⟨⟨rfl, rfl⟩, ⟨⟨rfl, rfl⟩, trivial⟩⟩⟩⟩⟩⟩, rfl, rfl, rfl⟩, ?_⟩; conv => whnf); try (refine hcut.go ?_; conv => whnf))
              refine hfin_of [(0, some 980), (1, some 981), (2, some 982), (3, some 983), (4, some 984), (5, some 985)] rfl rfl trivial rfl rfl ⟨⟨rfl, .inl ⟨980, rfl, rfl⟩⟩, ⟨rfl, .inl ⟨981, rfl, rfl⟩⟩, ⟨rfl, .inl ⟨982, rfl, rfl⟩⟩, ⟨rfl, .inl ⟨983, rfl, rfl⟩⟩, ⟨rfl, .inl ⟨984, rfl, rfl⟩⟩, ⟨rfl, .inl ⟨985, rfl, rfl⟩⟩, trivial⟩
        case inr =>
          rw [List.concat_eq_append] at hT ⊢
          have hU : heardU s.config.part t (L ++ [z]) = if z > t.recover then upS t s.config.part w else t := by
            unfold heardU
            rw [List.getLast?_concat]
            dsimp only
            rw [upS, setAt, hw]
          rw [hU] at hT
          have hll : ((L ++ [z]).map (fun n : Int => [pi n])).length = L.length + 1 := by simp
          have hLl : L.length < 2 ^ 38 := by
            have := hlo
            rw [List.concat_eq_append, List.length_append] at this
            simp only [List.length_cons, List.length_nil] at this
            have := h3.len
            omega
          rw [show decide (((List.map (fun n : Int => [pi n]) (L ++ [z])).length : Int) > 0) = true from decide_eq_true (by omega)]
          conv => whnf
          refine hwrap_fit (W_fit (by omega) (by omega)) ?_; conv => whnf
          refine hobl_intro (by omega) ?_; conv => whnf
          refine hrow_mid (f := fun n : Int => [pi n]) (a := L) (b := []) (s := z) rfl (by omega) ?_; conv => whnf
          ((refine hdraw_intro ?_ ?_; (· kernel_rfl); conv => whnf); try (refine hcut.go ?_; conv => whnf))
          by_cases e0 : z > t.recover
          case neg =>
            rw [if_neg e0] at hT
            rw [show decide (z > t.recover) = false from decide_eq_false e0]
            conv => whnf
            repeat (refine hcut.go ?_; conv => whnf)
            ((refine hcall_give [] [(1000000, 932)] [(0, 960)] ?_; (conv => whnf); refine ⟨_, _, _, _, Sco.spec_pointG t.out t.cum (by have := hft.out.len; omega), ⟨rfl, rfl, rfl, ⟨⟨rfl, _, rfl, .inl ⟨rfl, rfl⟩⟩, trivial⟩, ⟨⟨rfl, rfl⟩, trivial⟩, rfl, rfl, rfl⟩, ?_⟩; conv => whnf); try (refine hcut.go ?_; conv => whnf))
            cases mv with
            | false =>
              rw [show heardV false t = t from if_neg (fun h => absurd h.1 (by decide))] at hT
              subst hT
              conv => whnf
              ((refine hcall_give [] [(1000000, 5), (1000001, 930), (1000002, 931), (1000003, 932), (1000004, 933), (1000005, 934), (1000006, 935)] [(0, 980), (1, 981), (2, 982), (3, 983), (4, 984), (5, 985)] ?_; (conv => whnf); refine ⟨_, _, _, _, spec_settle t (hft), ⟨rfl, rfl, rfl, ⟨⟨rfl, _, rfl, .inl ⟨rfl, rfl⟩⟩, ⟨⟨rfl, _, rfl, .inl ⟨rfl, rfl⟩⟩, ⟨⟨rfl, _, rfl, .inl ⟨rfl, rfl⟩⟩, ⟨⟨rfl, _, rfl, .inl ⟨rfl, rfl⟩⟩, ⟨⟨rfl, _, rfl, .inl ⟨rfl, rfl⟩⟩, ⟨⟨rfl, _, rfl, .inl ⟨rfl, rfl⟩⟩, ⟨⟨rfl, _, rfl, .inl ⟨rfl, rfl⟩⟩, trivial⟩⟩⟩⟩⟩⟩⟩, ⟨⟨rfl, rfl⟩, ⟨⟨rfl, rfl⟩, ⟨⟨rfl, rfl⟩, ⟨⟨rfl, rfl⟩, ⟨⟨rfl, rfl⟩, ⟨⟨rfl, rfl⟩, trivial⟩⟩⟩⟩⟩⟩, rfl, rfl, rfl⟩, ?_⟩; conv => whnf); try (refine hcut.go ?_; conv => whnf))
              refine hfin_of [(0, some 980), (1, some 981), (2, some 982), (3, some 983), (4, some 984), (5, some 985)] rfl rfl trivial rfl rfl ⟨⟨rfl, .inl ⟨980, rfl, rfl⟩⟩, ⟨rfl, .inl ⟨981, rfl, rfl⟩⟩, ⟨rfl, .inl ⟨982, rfl, rfl⟩⟩, ⟨rfl, .inl ⟨983, rfl, rfl⟩⟩, ⟨rfl, .inl ⟨984, rfl, rfl⟩⟩, ⟨rfl, .inl ⟨985, rfl, rfl⟩⟩, trivial⟩
            | true =>
              conv => whnf
              by_cases e1 : (Sco.point t.out t.cum).1 > t.cum
              case pos =>
                rw [show heardV true t = { t with forward := true } from if_pos ⟨rfl, e1⟩] at hT
                subst hT
                rw [show decide ((Sco.point t.out t.cum).1 > t.cum) = true from decide_eq_true e1]
                conv => whnf
                ((refine hcall_give [] [(1000000, 5), (1000001, 930), (1000002, 931), (1000003, 932), (1000004, 933), (1000005, 934), (1000006, 935)] [(0, 980), (1, 981), (2, 982), (3, 983), (4, 984), (5, 985)] ?_; (conv => whnf); refine ⟨_, _, _, _, spec_settle ({ t with forward := true } : Sender) ((Fit.fwd hft)), ⟨rfl, rfl, rfl, ⟨⟨rfl, _, rfl, .inl ⟨rfl, rfl⟩⟩, ⟨⟨rfl, _, rfl, .inl ⟨rfl, rfl⟩⟩, ⟨⟨rfl, _, rfl, .inl ⟨rfl, rfl⟩⟩, ⟨⟨rfl, _, rfl, .inl ⟨rfl, rfl⟩⟩, ⟨⟨rfl, _, rfl, .inl ⟨rfl, rfl⟩⟩, ⟨⟨rfl, _, rfl, .inl ⟨rfl, rfl⟩⟩, ⟨⟨rfl, _, rfl, .inl ⟨rfl, rfl⟩⟩, trivial⟩⟩⟩⟩⟩⟩⟩, ⟨⟨rfl, rfl⟩, ⟨⟨rfl, rfl⟩, ⟨⟨rfl, rfl⟩, ⟨⟨rfl, rfl⟩, ⟨⟨rfl, rfl⟩, ⟨⟨rfl, rfl⟩, trivial⟩⟩⟩⟩⟩⟩, rfl, rfl, rfl⟩, ?_⟩; conv => whnf); try (refine hcut.go ?_; conv => whnf))
                refine hfin_of [(0, some 980), (1, some 981), (2, some 982), (3, some 983), (4, some 984), (5, some 985)] rfl rfl trivial rfl rfl ⟨⟨rfl, .inl ⟨980, rfl, rfl⟩⟩, ⟨rfl, .inl ⟨981, rfl, rfl⟩⟩, ⟨rfl, .inl ⟨982, rfl, rfl⟩⟩, ⟨rfl, .inl ⟨983, rfl, rfl⟩⟩, ⟨rfl, .inl ⟨984, rfl, rfl⟩⟩, ⟨rfl, .inl ⟨985, rfl, rfl⟩⟩, trivial⟩
              case neg =>
                rw [show heardV true t = t from if_neg (fun h => e1 h.2)] at hT
                subst hT
                rw [show decide ((Sco.point t.out t.cum).1 > t.cum) = false from decide_eq_false e1]
                conv => whnf
                ((refine hcall_give [] [(1000000, 5), (1000001, 930), (1000002, 931), (1000003, 932), (1000004, 933), (1000005, 934), (1000006, 935)] [(0, 980), (1, 981), (2, 982), (3, 983), (4, 984), (5, 985)] ?_; (conv => whnf); refine ⟨_, _, _, _, spec_settle t (hft), ⟨rfl, rfl, rfl, ⟨⟨rfl, _, rfl, .inl ⟨rfl, rfl⟩⟩, ⟨⟨rfl, _, rfl, .inl ⟨rfl, rfl⟩⟩, ⟨⟨rfl, _, rfl, .inl ⟨rfl, rfl⟩⟩, ⟨⟨rfl, _, rfl, .inl ⟨rfl, rfl⟩⟩, ⟨⟨rfl, _, rfl, .inl ⟨rfl, rfl⟩⟩, ⟨⟨rfl, _, rfl, .inl ⟨rfl, rfl⟩⟩, ⟨⟨rfl, _, rfl, .inl ⟨rfl, rfl⟩⟩, trivial⟩⟩⟩⟩⟩⟩⟩, ⟨⟨rfl, rfl⟩, ⟨⟨rfl, rfl⟩, ⟨⟨rfl, rfl⟩, ⟨⟨rfl, rfl⟩, ⟨⟨rfl, rfl⟩, ⟨⟨rfl, rfl⟩, trivial⟩⟩⟩⟩⟩⟩, rfl, rfl, rfl⟩, ?_⟩; conv => whnf); try (refine hcut.go ?_; conv => whnf))
                refine hfin_of [(0, some 980), (1, some 981), (2, some 982), (3, some 983), (4, some 984), (5, some 985)] rfl rfl trivial rfl rfl ⟨⟨rfl, .inl ⟨980, rfl, rfl⟩⟩, ⟨rfl, .inl ⟨981, rfl, rfl⟩⟩, ⟨rfl, .inl ⟨982, rfl, rfl⟩⟩, ⟨rfl, .inl ⟨983, rfl, rfl⟩⟩, ⟨rfl, .inl ⟨984, rfl, rfl⟩⟩, ⟨rfl, .inl ⟨985, rfl, rfl⟩⟩, trivial⟩
          case pos =>
            rw [if_pos e0] at hT
            rw [show decide (z > t.recover) = true from decide_eq_true e0]
            conv => whnf
            have pc := Paths.spec_choose t.paths (by omega)
            rw [hch] at pc
            ((refine hcall_lend ?_; (conv => whnf); refine ⟨_, pc, rfl, ?_⟩; conv => whnf); try (refine hcut.go ?_; conv => whnf))
            refine hobl_intro (by rw [List.length_map]; omega) ?_; conv => whnf
            refine hrow_q hw rfl ?_; conv => whnf
            ((refine hcall_lend ?_; (conv => whnf); refine ⟨_, Paths.spec_halved w s.config.part, rfl, ?_⟩; conv => whnf); try (refine hcut.go ?_; conv => whnf))
            refine hobl_intro (by rw [List.length_map]; omega) ?_; conv => whnf
            refine hrow_q hw rfl ?_; conv => whnf
            ((refine hdraw_intro ?_ ?_; (· kernel_rfl); conv => whnf); try (refine hcut.go ?_; conv => whnf))
            ((first | refine hwrap_W ?_ | refine hwrap_raw ?_); (conv => whnf); try (refine hcut.go ?_; conv => whnf))
            ((refine hcall_give [] [(1000000, 932)] [(0, 960)] ?_; (conv => whnf); refine ⟨_, _, _, _, Sco.spec_pointG t.out t.cum (by have := hft.out.len; omega), ⟨rfl, rfl, rfl, ⟨⟨rfl, _, rfl, .inl ⟨rfl, rfl⟩⟩, trivial⟩, ⟨⟨rfl, rfl⟩, trivial⟩, rfl, rfl, rfl⟩, ?_⟩; conv => whnf); try (refine hcut.go ?_; conv => whnf))
            cases mv with
            | false =>
              rw [show heardV false (upS t s.config.part w) = (upS t s.config.part w) from if_neg (fun h => absurd h.1 (by decide))] at hT
              subst hT
              conv => whnf
              ((refine hcall_give [] [(1000000, 5), (1000001, 930), (1000002, 931), (1000003, 932), (1000004, 933), (1000005, 934), (1000006, 935)] [(0, 980), (1, 981), (2, 982), (3, 983), (4, 984), (5, 985)] ?_; (conv => whnf); refine ⟨_, _, _, _, spec_settle (upS t s.config.part w) ((Fit.up hft)), ⟨rfl, rfl, rfl, ⟨⟨rfl, _, rfl, .inl ⟨rfl, rfl⟩⟩, ⟨⟨rfl, _, rfl, .inl ⟨rfl, rfl⟩⟩, ⟨⟨rfl, _, rfl, .inl ⟨rfl, rfl⟩⟩, ⟨⟨rfl, _, rfl, .inl ⟨rfl, rfl⟩⟩, ⟨⟨rfl, _, rfl, .inl ⟨rfl, (set_row rfl)⟩⟩, ⟨⟨rfl, _, rfl, .inl ⟨rfl, rfl⟩⟩, ⟨⟨rfl, _, rfl, .inl ⟨rfl, rfl⟩⟩, trivial⟩⟩⟩⟩⟩⟩⟩, ⟨⟨rfl, rfl⟩, ⟨⟨rfl, rfl⟩, ⟨⟨rfl, rfl⟩, ⟨⟨rfl, rfl⟩, ⟨⟨rfl, rfl⟩, ⟨⟨rfl, rfl⟩, trivial⟩⟩⟩⟩⟩⟩, rfl, rfl, rfl⟩, ?_⟩; conv => whnf); try (refine hcut.go ?_; conv => whnf))
              refine hfin_of [(0, some 980), (1, some 981), (2, some 982), (3, some 983), (4, some 984), (5, some 985)] rfl rfl trivial rfl rfl ⟨⟨rfl, .inl ⟨980, rfl, rfl⟩⟩, ⟨rfl, .inl ⟨981, rfl, rfl⟩⟩, ⟨rfl, .inl ⟨982, rfl, rfl⟩⟩, ⟨rfl, .inl ⟨983, rfl, rfl⟩⟩, ⟨rfl, .inl ⟨984, rfl, rfl⟩⟩, ⟨rfl, .inl ⟨985, rfl, rfl⟩⟩, trivial⟩
            | true =>
              conv => whnf
              by_cases e1 : (Sco.point t.out t.cum).1 > t.cum
              case pos =>
                rw [show heardV true (upS t s.config.part w) = { (upS t s.config.part w) with forward := true } from if_pos ⟨rfl, e1⟩] at hT
                subst hT
                rw [show decide ((Sco.point t.out t.cum).1 > t.cum) = true from decide_eq_true e1]
                conv => whnf
                ((refine hcall_give [] [(1000000, 5), (1000001, 930), (1000002, 931), (1000003, 932), (1000004, 933), (1000005, 934), (1000006, 935)] [(0, 980), (1, 981), (2, 982), (3, 983), (4, 984), (5, 985)] ?_; (conv => whnf); refine ⟨_, _, _, _, spec_settle ({ (upS t s.config.part w) with forward := true } : Sender) ((Fit.fwd (Fit.up hft))), ⟨rfl, rfl, rfl, ⟨⟨rfl, _, rfl, .inl ⟨rfl, rfl⟩⟩, ⟨⟨rfl, _, rfl, .inl ⟨rfl, rfl⟩⟩, ⟨⟨rfl, _, rfl, .inl ⟨rfl, rfl⟩⟩, ⟨⟨rfl, _, rfl, .inl ⟨rfl, rfl⟩⟩, ⟨⟨rfl, _, rfl, .inl ⟨rfl, (set_row rfl)⟩⟩, ⟨⟨rfl, _, rfl, .inl ⟨rfl, rfl⟩⟩, ⟨⟨rfl, _, rfl, .inl ⟨rfl, rfl⟩⟩, trivial⟩⟩⟩⟩⟩⟩⟩, ⟨⟨rfl, rfl⟩, ⟨⟨rfl, rfl⟩, ⟨⟨rfl, rfl⟩, ⟨⟨rfl, rfl⟩, ⟨⟨rfl, rfl⟩, ⟨⟨rfl, rfl⟩, trivial⟩⟩⟩⟩⟩⟩, rfl, rfl, rfl⟩, ?_⟩; conv => whnf); try (refine hcut.go ?_; conv => whnf))
                refine hfin_of [(0, some 980), (1, some 981), (2, some 982), (3, some 983), (4, some 984), (5, some 985)] rfl rfl trivial rfl rfl ⟨⟨rfl, .inl ⟨980, rfl, rfl⟩⟩, ⟨rfl, .inl ⟨981, rfl, rfl⟩⟩, ⟨rfl, .inl ⟨982, rfl, rfl⟩⟩, ⟨rfl, .inl ⟨983, rfl, rfl⟩⟩, ⟨rfl, .inl ⟨984, rfl, rfl⟩⟩, ⟨rfl, .inl ⟨985, rfl, rfl⟩⟩, trivial⟩
              case neg =>
                rw [show heardV true (upS t s.config.part w) = (upS t s.config.part w) from if_neg (fun h => e1 h.2)] at hT
                subst hT
                rw [show decide ((Sco.point t.out t.cum).1 > t.cum) = false from decide_eq_false e1]
                conv => whnf
                ((refine hcall_give [] [(1000000, 5), (1000001, 930), (1000002, 931), (1000003, 932), (1000004, 933), (1000005, 934), (1000006, 935)] [(0, 980), (1, 981), (2, 982), (3, 983), (4, 984), (5, 985)] ?_; (conv => whnf); refine ⟨_, _, _, _, spec_settle (upS t s.config.part w) ((Fit.up hft)), ⟨rfl, rfl, rfl, ⟨⟨rfl, _, rfl, .inl ⟨rfl, rfl⟩⟩, ⟨⟨rfl, _, rfl, .inl ⟨rfl, rfl⟩⟩, ⟨⟨rfl, _, rfl, .inl ⟨rfl, rfl⟩⟩, ⟨⟨rfl, _, rfl, .inl ⟨rfl, rfl⟩⟩, ⟨⟨rfl, _, rfl, .inl ⟨rfl, (set_row rfl)⟩⟩, ⟨⟨rfl, _, rfl, .inl ⟨rfl, rfl⟩⟩, ⟨⟨rfl, _, rfl, .inl ⟨rfl, rfl⟩⟩, trivial⟩⟩⟩⟩⟩⟩⟩, ⟨⟨rfl, rfl⟩, ⟨⟨rfl, rfl⟩, ⟨⟨rfl, rfl⟩, ⟨⟨rfl, rfl⟩, ⟨⟨rfl, rfl⟩, ⟨⟨rfl, rfl⟩, trivial⟩⟩⟩⟩⟩⟩, rfl, rfl, rfl⟩, ?_⟩; conv => whnf); try (refine hcut.go ?_; conv => whnf))
                refine hfin_of [(0, some 980), (1, some 981), (2, some 982), (3, some 983), (4, some 984), (5, some 985)] rfl rfl trivial rfl rfl ⟨⟨rfl, .inl ⟨980, rfl, rfl⟩⟩, ⟨rfl, .inl ⟨981, rfl, rfl⟩⟩, ⟨rfl, .inl ⟨982, rfl, rfl⟩⟩, ⟨rfl, .inl ⟨983, rfl, rfl⟩⟩, ⟨rfl, .inl ⟨984, rfl, rfl⟩⟩, ⟨rfl, .inl ⟨985, rfl, rfl⟩⟩, trivial⟩
theorem spec_hear (s : Sender) (c : Chunk) (hs : Fit s) (hr : Sco.Right s.out s.cum s.paths.length) (hsp : c.spans.length < 2 ^ 60) :
    FunOK Try.prog 50 [s.hv, c.hv] noHeap (hear s c).hv noHeap := by
  refine funOK_freeze Try.func50 (spec_hearo s c hs hr hsp) ?_
  conv => whnf
  rfl
end Snd
end Go.HL
