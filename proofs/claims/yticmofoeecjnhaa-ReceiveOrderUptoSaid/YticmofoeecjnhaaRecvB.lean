/- The receiver: the chunks of some messages (plain). -/
import Derived.Test.YticmofoeecjnhaaRecvO
namespace Go.HL
open Go.Proofs
namespace Rcv
open Srt Jn Ser
set_option maxHeartbeats 1000000
set_option linter.unusedSimpArgs false
/-- the parts of what is left of message k, from part p on, with tags from t on -/
def chk (k part : Nat) : Nat → Nat → Nat → List UInt8 → List Chunk
  | 0, _, _, _ => []
  | n + 1, t, p, m => if m = [] then [] else ⟨1, t, (k % 2 : Nat), (k / 2 : Nat), p, decide (m.length ≤ part), true, m.take part, [], 0, []⟩ :: chk k part n (t + 1) (p + 1) (m.drop part)
theorem chk_nil (k part n t p : Nat) : chk k part n t p [] = [] := by cases n <;> simp [chk]
theorem chk_len {k part : Nat} (hp : 1 ≤ part) : ∀ (n t p : Nat) (m : List UInt8), (chk k part n t p m).length ≤ m.length
  | 0, _, _, _ => Nat.zero_le _
  | n + 1, t, p, m => by
    rw [chk]
    split
    · exact Nat.zero_le _
    · rename_i h
      have := chk_len (k := k) hp n (t + 1) (p + 1) (m.drop part)
      have := List.length_pos_iff.2 h
      rw [List.length_drop] at *
      simp only [List.length_cons]; omega
theorem chk_pos {k part : Nat} {n t p : Nat} {m : List UInt8} (hn : m.length ≤ n) (h : m ≠ []) : chk k part n t p m ≠ [] := by
  have := List.length_pos_iff.2 h
  obtain ⟨n', rfl⟩ : ∃ n', n = n' + 1 := ⟨n - 1, by omega⟩
  rw [chk, if_neg h]; simp
theorem chk_mem {k part : Nat} : ∀ {n t p : Nat} {m : List UInt8} {c : Chunk}, c ∈ chk k part n t p m → c.kind = 1 ∧ c.ordered = true ∧ c.stream = (k % 2 : Nat) ∧ c.mid = (k / 2 : Nat) ∧ (p : Int) ≤ c.part
  | n + 1, t, p, m, c, h => by
    rw [chk] at h
    split at h
    · cases h
    · rcases List.mem_cons.1 h with rfl | h
      · exact ⟨rfl, rfl, rfl, rfl, Int.le_refl _⟩
      · obtain ⟨h1, h2, h3, h4, h5⟩ := chk_mem h
        exact ⟨h1, h2, h3, h4, by omega⟩
theorem chk_tags {k part : Nat} : ∀ (n t p : Nat) (m : List UInt8), (chk k part n t p m).map (fun c => c.tag) = (List.range' t (chk k part n t p m).length).map fun i : Nat => (i : Int)
  | 0, _, _, _ => rfl
  | n + 1, t, p, m => by
    rw [chk]
    split
    · rfl
    · rw [List.map_cons, List.length_cons, List.range'_succ, List.map_cons, chk_tags n]
theorem chk_dsum {k part : Nat} (hp : 1 ≤ part) : ∀ (n t p : Nat) (m : List UInt8), m.length ≤ n → dsum (chk k part n t p m) = m.length
  | 0, t, p, m, h => by
    have : m = [] := List.eq_nil_of_length_eq_zero (by omega)
    subst this; rfl
  | n + 1, t, p, m, h => by
    rw [chk]
    split
    · rename_i h1; subst h1; rfl
    · rename_i h1
      have h2 := List.length_pos_iff.2 h1
      have ih := chk_dsum (k := k) hp n (t + 1) (p + 1) (m.drop part) (by rw [List.length_drop]; omega)
      rw [List.length_drop] at ih
      unfold dsum at ih ⊢
      rw [List.map_cons, List.sum_cons, ih, List.length_take]; omega
theorem chk_join {k part : Nat} (hp : 1 ≤ part) : ∀ (n t p N : Nat) (m : List UInt8), m.length ≤ n → N = p + (chk k part n t p m).length → joinL N p ((chk k part n t p m).map pc) = some m
  | 0, t, p, N, m, h, hN => by
    have : m = [] := List.eq_nil_of_length_eq_zero (by omega)
    subst this; rfl
  | n + 1, t, p, N, m, h, hN => by
    rw [chk] at hN ⊢
    split
    · rename_i h1; subst h1; rfl
    · rename_i h1
      rw [if_neg h1, List.length_cons] at hN
      have h2 := List.length_pos_iff.2 h1
      have hl : (m.drop part).length ≤ n := by rw [List.length_drop]; omega
      have ih := chk_join (k := k) hp n (t + 1) (p + 1) N (m.drop part) hl (by omega)
      rw [List.map_cons, joinL, if_pos, ih]
      · show some (m.take part ++ m.drop part) = some m
        rw [List.take_append_drop]
      · refine ⟨rfl, ?_⟩
        show decide (m.length ≤ part) = decide (p + 1 = N)
        rw [decide_eq_decide]
        by_cases c : m.length ≤ part
        · have : m.drop part = [] := List.drop_eq_nil_of_le c
          rw [this, chk_nil] at hN
          simp at hN; simp [c]; omega
        · have h3 : chk k part n (t + 1) (p + 1) (m.drop part) ≠ [] := chk_pos hl (by
            intro h4; rw [List.drop_eq_nil_iff] at h4; omega)
          have := List.length_pos_iff.2 h3
          constructor
          · intro h5; omega
          · intro h5; omega
theorem chk_sd {k part : Nat} : ∀ (n t p : Nat) (m : List UInt8), Sd ck ((chk k part n t p m).map pc)
  | 0, _, _, _ => trivial
  | n + 1, t, p, m => by
    rw [chk]
    split
    · trivial
    · rw [List.map_cons]
      refine ⟨fun y hy => ?_, chk_sd n _ _ _⟩
      obtain ⟨c, hc, rfl⟩ := List.mem_map.1 hy
      have := (chk_mem hc).2.2.2.2
      show (p : Int) ≤ c.part
      omega
theorem chk_whole {k part : Nat} (hp : 1 ≤ part) {t : Nat} {m : List UInt8} (h : m ≠ []) : join ((chk k part m.length t 0 m).map pc) = some m := by
  have h1 := chk_pos (k := k) (part := part) (t := t) (p := 0) (Nat.le_refl m.length) h
  rw [join, if_neg (by simpa using h1), srt_of_sd (chk_sd _ _ _ _)]
  exact chk_join hp _ _ _ _ m (Nat.le_refl _) (by simp)
/-- the chunks of messages k, k + 1, .. with tags from t on -/
def chs (part : Nat) : Nat → Nat → List (List UInt8) → List Chunk
  | _, _, [] => []
  | k, t, m :: r => chk k part m.length t 0 m ++ chs part (k + 1) (t + (chk k part m.length t 0 m).length) r
theorem chs_snoc (part : Nat) : ∀ (A : List (List UInt8)) (k t : Nat) (m : List UInt8), chs part k t (A ++ [m]) = chs part k t A ++ chk (k + A.length) part m.length (t + (chs part k t A).length) 0 m
  | [], k, t, m => by simp [chs]
  | a :: A, k, t, m => by
    rw [List.cons_append, chs, chs_snoc part A, chs, List.length_append, List.length_cons, List.append_assoc]
    rw [show k + 1 + A.length = k + (A.length + 1) by omega, Nat.add_assoc t]
theorem chs_mem {part : Nat} : ∀ {l : List (List UInt8)} {k t : Nat} {c : Chunk}, c ∈ chs part k t l → c.kind = 1 ∧ c.ordered = true ∧ ∃ i, i < l.length ∧ c.stream = ((k + i) % 2 : Nat) ∧ c.mid = ((k + i) / 2 : Nat)
  | m :: l, k, t, c, h => by
    rw [chs] at h
    rcases List.mem_append.1 h with h | h
    · obtain ⟨h1, h2, h3, h4, h5⟩ := chk_mem h
      exact ⟨h1, h2, 0, by simp, h3, h4⟩
    · obtain ⟨h1, h2, i, h3, h4, h5⟩ := chs_mem h
      exact ⟨h1, h2, i + 1, by simp; omega, by rw [h4, show k + (i + 1) = k + 1 + i by omega], by rw [h5, show k + (i + 1) = k + 1 + i by omega]⟩
theorem chs_tags {part : Nat} : ∀ (l : List (List UInt8)) (k t : Nat), (chs part k t l).map (fun c => c.tag) = (List.range' t (chs part k t l).length).map fun i : Nat => (i : Int)
  | [], _, _ => rfl
  | m :: l, k, t => by
    rw [chs, List.map_append, chk_tags, chs_tags l, List.length_append, ← List.range'_append_1, List.map_append]
def lens (l : List (List UInt8)) : Nat := (l.map List.length).sum
theorem chs_dsum {part : Nat} (hp : 1 ≤ part) : ∀ (l : List (List UInt8)) (k t : Nat), dsum (chs part k t l) = lens l
  | [], _, _ => rfl
  | m :: l, k, t => by
    have h1 := chk_dsum (k := k) hp m.length t 0 m (Nat.le_refl _)
    have h2 := chs_dsum hp l (k + 1) (t + (chk k part m.length t 0 m).length)
    unfold dsum lens at *
    rw [chs, List.map_append, List.sum_append, h1, h2, List.map_cons, List.sum_cons]
theorem chs_len {part : Nat} (hp : 1 ≤ part) : ∀ (l : List (List UInt8)) (k t : Nat), (chs part k t l).length ≤ lens l
  | [], _, _ => Nat.le_refl _
  | m :: l, k, t => by
    have h1 := chk_len (k := k) hp m.length t 0 m
    have h2 := chs_len hp l (k + 1) (t + (chk k part m.length t 0 m).length)
    unfold lens at *
    rw [chs, List.length_append, List.map_cons, List.sum_cons]; omega
theorem lens_le {B : Nat} : ∀ {l : List (List UInt8)}, (∀ m ∈ l, m.length ≤ B) → lens l ≤ l.length * B
  | [], _ => Nat.zero_le _
  | m :: l, h => by
    have h1 := lens_le fun x hx => h x (List.mem_cons_of_mem _ hx)
    have h2 := h m (by simp)
    unfold lens at *
    rw [List.map_cons, List.sum_cons, List.length_cons, Nat.succ_mul]; omega
theorem chs_msg {part : Nat} : ∀ (l : List (List UInt8)) (k t i : Nat) (h : i < l.length), ∃ t', msg ((k + i) % 2) ((k + i) / 2) (chs part k t l) = chk (k + i) part l[i].length t' 0 l[i]
  | m :: l, k, t, 0, h => by
    refine ⟨t, ?_⟩
    rw [chs, msg_app]
    have h1 : msg ((k + 0) % 2) ((k + 0) / 2) (chk k part m.length t 0 m) = chk k part m.length t 0 m := by
      rw [msg, List.filter_eq_self]
      intro c hc
      obtain ⟨-, -, h3, h4, -⟩ := chk_mem hc
      simp [h3, h4]
    have h2 : msg ((k + 0) % 2) ((k + 0) / 2) (chs part (k + 1) (t + (chk k part m.length t 0 m).length) l) = [] := by
      rw [msg, List.filter_eq_nil_iff]
      intro c hc hcc
      obtain ⟨-, -, i, h3, h4, h5⟩ := chs_mem hc
      simp only [Bool.and_eq_true, decide_eq_true_eq] at hcc
      obtain ⟨g1, g2⟩ := hcc
      omega
    rw [h1, h2, List.append_nil]; rfl
  | m :: l, k, t, i + 1, h => by
    obtain ⟨t', ih⟩ := chs_msg l (k + 1) (t + (chk k part m.length t 0 m).length) i (by simpa using h)
    refine ⟨t', ?_⟩
    rw [chs, msg_app]
    have h1 : msg ((k + (i + 1)) % 2) ((k + (i + 1)) / 2) (chk k part m.length t 0 m) = [] := by
      rw [msg, List.filter_eq_nil_iff]
      intro c hc hcc
      obtain ⟨-, -, h3, h4, -⟩ := chk_mem hc
      simp only [Bool.and_eq_true, decide_eq_true_eq] at hcc
      obtain ⟨g1, g2⟩ := hcc
      omega
    rw [h1, List.nil_append, show k + (i + 1) = k + 1 + i by omega, ih, List.getElem_cons_succ]
/-- the messages of a stream -/
def strm (ms : List (List UInt8)) (s : Nat) : List (List UInt8) := (List.range ((ms.length + 1 - s) / 2)).map fun j => ms[2 * j + s]?.getD []
theorem strm_len (ms : List (List UInt8)) (s : Nat) : (strm ms s).length = (ms.length + 1 - s) / 2 := by simp [strm]
theorem strm_at {ms : List (List UInt8)} {s j : Nat} (h : j < (strm ms s).length) : (strm ms s)[j] = ms[2 * j + s]?.getD [] := by simp [strm]
theorem book (ms : List (List UInt8)) (part : Nat) (hp : 1 ≤ part) (h8 : ms.length ≤ 8) (hm : ∀ m ∈ ms, 1 ≤ m.length ∧ m.length ≤ 30) : Book (chs part 0 7 ms) (strm ms) := by
  have hl := chs_len hp ms 0 7
  have hl2 := lens_le fun m h => (hm m h).2
  have ht := chs_tags (part := part) ms 0 7
  have hat : ∀ (i : Nat) (h : i < (chs part 0 7 ms).length), (chs part 0 7 ms)[i].tag = ((7 + i : Nat) : Int) := fun i h => by
    have := congrArg (fun l => l[i]?) ht
    simpa [h] using this
  refine ⟨fun c hc => ?_, fun c hc => ?_, fun m h1 h2 => ?_, ?_, by omega, by rw [chs_dsum hp]; omega, fun c hc => ?_, fun s => ?_, fun s j hs hj => ?_⟩
  · obtain ⟨h1, h2, i, h3, h4, h5⟩ := chs_mem hc
    exact ⟨h1, h2, by omega⟩
  · obtain ⟨i, hi, rfl⟩ := List.getElem_of_mem hc
    have := hat i hi
    omega
  · have hi : (m - 7).toNat < (chs part 0 7 ms).length := by omega
    exact ⟨_, List.getElem_mem hi, by rw [hat _ hi]; omega⟩
  · rw [List.pairwise_iff_getElem]
    intro i j hi hj hij
    rw [hat i hi, hat j hj]; omega
  · obtain ⟨h1, h2, i, h3, h4, h5⟩ := chs_mem hc
    rw [strm_len]
    have h6 : c.stream.toNat = (0 + i) % 2 := by omega
    rw [h6]
    omega
  · rw [strm_len]; omega
  · have hj2 := hj
    rw [strm_len] at hj2
    have hi : 2 * j + s < ms.length := by omega
    obtain ⟨t', h1⟩ := chs_msg (part := part) ms 0 7 (2 * j + s) hi
    rw [show (0 + (2 * j + s)) % 2 = s by omega, show (0 + (2 * j + s)) / 2 = j by omega] at h1
    rw [h1, strm_at hj, List.getElem?_eq_getElem hi, Option.getD_some]
    have := (hm _ (List.getElem_mem hi)).1
    exact chk_whole hp (by intro h; rw [h] at this; simp at this)
/-- what the law asks of the log -/
theorem allin_len {C : List Chunk} {ms : List (List UInt8)} {r : Receiver} (h : AllIn C (strm ms) r) : r.log.length = ms.length := by
  have h0 := congrArg List.length (h.log 0 (by omega))
  have h1 := congrArg List.length (h.log 1 (by omega))
  rw [List.length_map, List.length_range, strm_len] at h0 h1
  have hs : ∀ l : List Arrival, (∀ a ∈ l, a.stream = 0 ∨ a.stream = 1) → l.length = (l.filter fun a => decide (a.stream = ((0 : Nat) : Int))).length + (l.filter fun a => decide (a.stream = ((1 : Nat) : Int))).length := by
    intro l
    induction l with
    | nil => intro _; rfl
    | cons a l ih =>
      intro hl
      have ih := ih fun x hx => hl x (by simp [hx])
      rcases hl a (by simp) with e | e <;> simp [e] <;> simp at ih <;> omega
  have := hs r.log h.logs
  omega
/-- how many of a stream there were -/
def cnt (s : Nat) (A : List Arrival) : Nat := (A.filter fun a => decide (a.stream = (s : Int))).length
theorem allin_at {C : List Chunk} {ms : List (List UInt8)} {r : Receiver} (h : AllIn C (strm ms) r) {A B : List Arrival} {a : Arrival} (hr : r.log = A ++ a :: B) : ∃ s : Nat, s < 2 ∧ a.stream = s ∧ 2 * cnt s A + s < ms.length ∧ a.data = ms[2 * cnt s A + s]?.getD [] := by
  have hs := h.logs a (by rw [hr]; simp)
  have key : ∀ s : Nat, s < 2 → a.stream = s → 2 * cnt s A + s < ms.length ∧ a.data = ms[2 * cnt s A + s]?.getD [] := by
    intro s hs2 e
    have h1 := h.log s hs2
    rw [hr, List.filter_append, List.filter_cons, if_pos (by simpa using e)] at h1
    have h2 := congrArg (fun l => l[cnt s A]?) h1
    rw [show cnt s A = (A.filter fun a => decide (a.stream = (s : Int))).length from rfl, List.getElem?_append_right (Nat.le_refl _)] at h2
    have hlen := congrArg List.length h1
    rw [List.length_append, List.length_cons, List.length_map, List.length_range, strm_len] at hlen
    have hc : (A.filter fun a => decide (a.stream = (s : Int))).length = cnt s A := rfl
    rw [hc] at hlen h2
    have hlt : cnt s A < (strm ms s).length := by rw [strm_len]; omega
    rw [Nat.sub_self, List.getElem?_cons_zero, List.getElem?_map, List.getElem?_range hlt, Option.map_some, List.getElem?_eq_getElem hlt, Option.getD_some, strm_at hlt] at h2
    exact ⟨by omega, by rw [Option.some.inj h2]⟩
  rcases hs with e | e
  · exact ⟨0, by omega, e, key 0 (by omega) e⟩
  · exact ⟨1, by omega, e, key 1 (by omega) e⟩
theorem cnt_snoc (s : Nat) (A : List Arrival) (a : Arrival) : cnt s (A ++ [a]) = cnt s A + if a.stream = (s : Int) then 1 else 0 := by
  unfold cnt
  rw [List.filter_append, List.length_append]
  by_cases e : a.stream = (s : Int) <;> simp [e]
theorem swap_perm {α : Type} {l : List α} {i n : Nat} (hi : i < l.length) (hn : n < l.length) : ((l.set i l[n]).set n l[i]).Perm l := List.set_set_perm hi hn
end Rcv
end Go.HL
