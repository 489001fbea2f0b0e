/- The sender: what stays as it was when it hands on (plain). -/
import Derived.Test.YticmofoeecjnhaaSndJ
namespace Go.HL
open Go.Proofs
namespace Snd
open Ser
set_option maxHeartbeats 4000000
set_option maxRecDepth 100000
set_option linter.unusedSimpArgs false
structure PF (j : Nat) (s : Sender) : Prop where
  g : GFit s
  some : 0 < s.paths.length
  part : 1 ≤ s.config.part
  part2 : s.config.part < 2 ^ 30
  msg : ∀ m ∈ s.queue, MsgFit s m
  chunk : ∀ x ∈ s.out, Okc x.chunk
  bytes : Sco.total s.out + j * 2 ^ 30 < 2 ^ 38
  few : s.out.length + s.queue.length < 2 ^ 27
theorem PF.nfit {j : Nat} {s : Sender} (h : PF j s) : NFit s := ⟨h.g, h.some, h.part, h.part2, h.msg⟩
theorem MsgFit.same {s t : Sender} {m : Queued} (h : MsgFit s m) (h1 : t.config = s.config) (h2 : t.mids.length = s.mids.length) (h3 : t.sched.had.length = s.sched.had.length) : MsgFit t m := by
  obtain ⟨⟨a1, a2, a3, a4, a5⟩, b1, b2, b3, b4⟩ := h
  have e : midAt t m = midAt s m := by unfold midAt; rw [h1]
  exact ⟨⟨a1, a2, by rw [h1]; exact a3, by rw [h1]; exact a4, fun hm => by rw [e, h2]; exact a5 hm⟩, by rw [h3]; exact b1, b2, b3, b4⟩
theorem ends_okc (id : Int) : ∀ (q : List Queued) (s : Sender), (∀ x ∈ s.out, Okc x.chunk) → ∀ x ∈ (q.foldl (end1 id) s).out, Okc x.chunk
  | [], s, h, x, hx => h x hx
  | m :: q, s, h, x, hx => by
    refine ends_okc id q (end1 id s m) (fun y hy => ?_) x hx
    unfold end1 at hy
    split at hy
    · rcases List.mem_append.1 hy with hy | hy
      · exact h y hy
      · rw [List.mem_singleton] at hy; subst hy; exact ⟨by simp [endOf], by simp [endOf]⟩
    · exact h y hy
theorem give_pf {j : Nat} {s : Sender} (h : PF j s) {id : Nat} (hid : id < s.fates.length) : PF j (giveS s id) := by
  obtain ⟨r, h1, h2, h3⟩ := give_rest s id
  have hs := r.sum
  refine ⟨give_fit h.g hid, by rw [r.paths]; exact h.some, by rw [r.config]; exact h.part, by rw [r.config]; exact h.part2, fun m hm => (h.msg m (h2 m hm)).same r.config (by rw [r.mids]) (by rw [r.had]), fun x hx => ?_, by rw [h1]; exact h.bytes, by have := h.few; omega⟩
  have hx' : x ∈ ((s.queue.foldl (end1 id) { s with fates := s.fates.set id 3 }).out.map (Sco.give id)) := hx
  obtain ⟨y, hy, rfl⟩ := List.mem_map.1 hx'
  have := ends_okc id s.queue { s with fates := s.fates.set id 3 } h.chunk y hy
  have e : (Sco.give id y).chunk = y.chunk := by unfold Sco.give; split <;> rfl
  rw [e]; exact this
theorem expQ_pf {j : Nat} {s : Sender} (h : PF j s) {m : Queued} (hm : 0 ≤ m.id ∧ m.id < s.fates.length) : PF j (expQ s m) := by
  unfold expQ
  split
  · obtain ⟨k, hk⟩ : ∃ k : Nat, m.id = k := ⟨m.id.toNat, by omega⟩
    rw [hk]; exact give_pf h (by omega)
  · exact h
theorem expX_pf {j : Nat} {s : Sender} (h : PF j s) {m : Sent} (hm : 0 ≤ m.id ∧ m.id < s.fates.length) : PF j (expX s m) := by
  unfold expX
  split
  · obtain ⟨k, hk⟩ : ∃ k : Nat, m.id = k := ⟨m.id.toNat, by omega⟩
    rw [hk]; exact give_pf h (by omega)
  · exact h
theorem expQs_pf {j : Nat} : ∀ (q : List Queued) (s : Sender), PF j s → (∀ m ∈ q, 0 ≤ m.id ∧ m.id < s.fates.length) → PF j (q.foldl expQ s) ∧ Rest s (q.foldl expQ s)
  | [], s, h, _ => ⟨h, Rest.refl s⟩
  | m :: q, s, h, hq => by
    obtain ⟨-, r⟩ := expQ_fit h.g (hq m (by simp))
    obtain ⟨h1, r1⟩ := expQs_pf q (expQ s m) (expQ_pf h (hq m (by simp))) fun x hx => by rw [r.fates]; exact hq x (by simp [hx])
    exact ⟨h1, r.trans r1⟩
theorem expXs_pf {j : Nat} : ∀ (q : List Sent) (s : Sender), PF j s → (∀ m ∈ q, 0 ≤ m.id ∧ m.id < s.fates.length) → PF j (q.foldl expX s) ∧ Rest s (q.foldl expX s)
  | [], s, h, _ => ⟨h, Rest.refl s⟩
  | m :: q, s, h, hq => by
    obtain ⟨-, r⟩ := expX_fit h.g (hq m (by simp))
    obtain ⟨h1, r1⟩ := expXs_pf q (expX s m) (expX_pf h (hq m (by simp))) fun x hx => by rw [r.fates]; exact hq x (by simp [hx])
    exact ⟨h1, r.trans r1⟩
theorem expire_pf {j : Nat} {s : Sender} (h : PF j s) : PF j (expire s) ∧ Rest s (expire s) := by
  obtain ⟨h1, r1⟩ := expQs_pf s.queue s h h.g.qid
  obtain ⟨h2, r2⟩ := expXs_pf (s.queue.foldl expQ s).out _ h1 h1.g.xid
  exact ⟨h2, r1.trans r2⟩
theorem point_few : ∀ (l : List Sent) (cum : Int) (sk : List Skip), sk.length ≤ 8 → (Sco.pointFrom cum sk l).2.length ≤ 8
  | [], cum, sk, h => h
  | x :: l, cum, sk, h => by
    simp only [Sco.pointFrom]
    split
    · exact h
    split
    · split
      · exact h
      · exact point_few l _ _ (by omega)
    · exact point_few l _ _ h
theorem fwdC_ok (s : Sender) : Okc (fwdC s) := ⟨by simp [fwdC], by have := point_few s.out s.cum [] (by simp); show (Sco.point s.out s.cum).2.length < _; unfold Sco.point; omega⟩
theorem PF.paths {j : Nat} {s : Sender} (h : PF j s) (ps : List Path) (f : Bool) (hp : ps.length = s.paths.length) : PF j { s with paths := ps, forward := f } := by
  obtain ⟨⟨⟨f1, f2, f3, f4, f5, f6, f7⟩, g2, g3, g4⟩, a1, a2, a3, a4, a5, a6, a7⟩ := h
  exact ⟨⟨⟨f1, f2, f3, by show ps.length < _; omega, f5, f6, f7⟩, g2, g3, g4⟩, by show 0 < ps.length; omega, a2, a3, fun m hm => (a4 m hm).same rfl rfl rfl, a5, a6, a7⟩
theorem fwd_pf {j : Nat} {s : Sender} (h : PF j s) {k : Nat} {w : Path} : PF j (fwdS s k w) := h.paths _ _ (by simp)
theorem fly_pf {j : Nat} {s : Sender} (h : PF j s) {i c : Nat} {x : Sent} {w : Path} (hx : s.out[i]? = some x) : PF j (flyS s i c x w) := by
  obtain ⟨⟨⟨f1, f2, ⟨b1, b2⟩, f4, f5, f6, f7⟩, g2, g3, g4⟩, a1, a2, a3, a4, a5, a6, a7⟩ := h
  have hi := (List.getElem?_eq_some_iff.1 hx).1
  have hl : (flyS s i c x w).out.length = s.out.length := by show (s.out.set i _).length = _; simp
  have hp : (flyS s i c x w).paths.length = s.paths.length := by show (s.paths.set c _).length = _; simp
  have ht : Sco.total (flyS s i c x w).out = Sco.total s.out := by
    show Sco.total (s.out.set i (flyX x c)) = _
    have he : s.out[i] = x := (List.getElem?_eq_some_iff.1 hx).2
    simp only [Sco.total, List.map_set]
    rw [show (flyX x c).chunk.data.length = (s.out.map fun s => s.chunk.data.length)[i]'(by simpa using hi) by simp [flyX, he], List.set_getElem_self]
  have hmem : ∀ y ∈ (flyS s i c x w).out, ∃ z ∈ s.out, y.id = z.id ∧ y.chunk = z.chunk := fun y hy => by
    rcases List.mem_or_eq_of_mem_set (show y ∈ s.out.set i (flyX x c) from hy) with hy | hy
    · exact ⟨y, hy, rfl, rfl⟩
    · exact ⟨x, List.mem_of_getElem? hx, by rw [hy]; rfl, by rw [hy]; rfl⟩
  refine ⟨⟨⟨f1, f2, ⟨by rw [hl]; exact b1, by rw [ht]; exact b2⟩, by rw [hp]; exact f4, f5, f6, f7⟩, by rw [hl]; exact g2, g3, fun y hy => ?_⟩, by rw [hp]; exact a1, a2, a3, fun m hm => (a4 m hm).same rfl rfl rfl, fun y hy => ?_, by rw [ht]; exact a6, by rw [hl]; exact a7⟩
  · obtain ⟨z, hz, e, -⟩ := hmem y hy; rw [e]; exact g4 z hz
  · obtain ⟨z, hz, -, e⟩ := hmem y hy; rw [e]; exact a5 z hz
def nxS (s : Sender) (k c : Nat) (m : Queued) (w : Path) : Sender := { flyS (s2 s k m) s.out.length c (x0 s m) w with queue := if ovr s m then s.queue.eraseIdx k else s.queue.set k (m2 s m) }
theorem next_pf {j : Nat} {s : Sender} (h : PF (j + 1) s) {k c : Nat} {m : Queued} {w : Path} (hm : s.queue[k]? = some m) (ho : s.out.length < 60) : PF j (nxS s k c m w) := by
  have hmf := h.msg m (List.mem_of_getElem? hm)
  obtain ⟨⟨⟨f1, f2, ⟨b1, b2⟩, f4, f5, f6, f7⟩, g2, g3, g4⟩, a1, a2, a3, a4, a5, a6, a7⟩ := h
  obtain ⟨n1, n2, n3⟩ := many_is (s := s) (m := m) a2 a3 hmf.sent hmf.left hmf.data
  have hk := (List.getElem?_eq_some_iff.1 hm).1
  have hmid : (midsOf s m).length = s.mids.length := by
    unfold midsOf setAt
    split
    · split
      · rfl
      · simp
    · rfl
  have hhad : (Sch.had s.sched { m with mid := midOf s m } (many s m) (ovr s m)).had.length = s.sched.had.length := by
    unfold Sch.had
    dsimp only
    split <;> simp
  have hout : (nxS s k c m w).out = (s.out ++ [x0 s m]).set s.out.length (flyX (x0 s m) c) := rfl
  have hout2 : (nxS s k c m w).out = s.out ++ [flyX (x0 s m) c] := by rw [hout, List.set_append_right _ _ (Nat.le_refl _), Nat.sub_self]; rfl
  have hq : ∀ y ∈ (nxS s k c m w).queue, y ∈ s.queue ∨ (y = m2 s m ∧ ovr s m = false) := fun y hy => by
    have hy : y ∈ (if ovr s m then s.queue.eraseIdx k else s.queue.set k (m2 s m)) := hy
    cases ho : ovr s m with
    | true => rw [ho, if_pos rfl] at hy; exact .inl (List.mem_of_mem_eraseIdx hy)
    | false =>
      rw [ho, if_neg (by decide)] at hy
      rcases List.mem_or_eq_of_mem_set hy with hy | hy
      · exact .inl hy
      · exact .inr ⟨hy, rfl⟩
  have hql : (nxS s k c m w).queue.length ≤ s.queue.length := by
    show (if ovr s m then s.queue.eraseIdx k else s.queue.set k (m2 s m)).length ≤ _
    split
    · rw [List.length_eraseIdx]; split <;> omega
    · simp
  have hp : (nxS s k c m w).paths.length = s.paths.length := by show (s.paths.set c _).length = _; simp
  have hd : (x0 s m).chunk.data.length < 2 ^ 30 := by show ((m.message.data.drop _).take _).length < _; simp; omega
  have htot : Sco.total (nxS s k c m w).out = Sco.total s.out + (x0 s m).chunk.data.length := by rw [hout2, Sco.total_app]; simp [Sco.total, flyX]
  have hlen : (nxS s k c m w).out.length = s.out.length + 1 := by rw [hout2]; simp
  have hm2 : ovr s m = false → MsgFit s (m2 s m) := fun ho => by
    have : m.sent + many s m ≠ m.message.data.length := by
      intro e
      have := ovr_eq s m
      rw [ho, decide_eq_false_iff_not] at this
      exact this e
    obtain ⟨⟨c1, c2, c3, c4, c5⟩, d1, d2, d3, d4⟩ := hmf
    refine ⟨⟨c1, c2, c3, c4, fun hneg => ?_⟩, d1, by show 0 ≤ m.sent + many s m; omega, by show m.sent + many s m < m.message.data.length; omega, d4⟩
    have hmn : m.mid < 0 := by
      rcases Int.lt_or_le m.mid 0 with h0 | h0
      · exact h0
      · have : midOf s m = m.mid := by rw [midOf, if_neg (by omega)]
        have hneg : midOf s m < 0 := hneg
        omega
    exact c5 hmn
  refine ⟨⟨⟨by omega, by rw [show (nxS s k c m w).sched.had.length = s.sched.had.length from hhad]; exact f2, ⟨by omega, by omega⟩, by omega, by rw [show (nxS s k c m w).mids.length = s.mids.length from hmid]; exact f5, f6, fun y hy => ?_⟩, by omega, fun y hy => ?_, fun y hy => ?_⟩, by omega, a2, a3, fun y hy => ?_, fun y hy => ?_, by omega, by omega⟩
  · rcases hq y hy with hy | ⟨rfl, -⟩
    · exact f7 y hy
    · exact f7 m (List.mem_of_getElem? hm)
  · show 0 ≤ y.id ∧ y.id < s.fates.length
    rcases hq y hy with hy | ⟨rfl, -⟩
    · exact g3 y hy
    · exact g3 m (List.mem_of_getElem? hm)
  · show 0 ≤ y.id ∧ y.id < s.fates.length
    rw [hout2] at hy
    rcases List.mem_append.1 hy with hy | hy
    · exact g4 y hy
    · rw [List.mem_singleton] at hy; subst hy; exact g3 m (List.mem_of_getElem? hm)
  · have h0 : MsgFit s y := by
      rcases hq y hy with hy | ⟨rfl, ho⟩
      · exact a4 y hy
      · exact hm2 ho
    exact h0.same rfl hmid hhad
  · rw [hout2] at hy
    rcases List.mem_append.1 hy with hy | hy
    · exact a5 y hy
    · rw [List.mem_singleton] at hy; subst hy; exact ⟨by simp [flyX, x0], by simp [flyX, x0]⟩
theorem nx_cases {s : Sender} {o : List (List Chunk)} {j : Nat} (h : PF (j + 1) s) (hc : choose s < o.length) : (nx s o = (⟨s, o⟩, false) ∧ next ⟨s, o⟩ = none) ∨ ∃ (k : Nat) (m : Queued) (w : Path) (l : List Chunk), s.queue[k]? = some m ∧ s.out.length < 60 ∧ o[choose s]? = some l ∧
    nx s o = (⟨nxS s k (choose s) m w, o.set (choose s) (l ++ [(x0 s m).chunk])⟩, true) ∧ next ⟨s, o⟩ = some ⟨nxS s k (choose s) m w, o.set (choose s) (l ++ [(x0 s m).chunk])⟩ := by
  obtain ⟨-, hc2⟩ := choose_is h.some
  obtain ⟨w, hw⟩ : ∃ w, s.paths[choose s]? = some w := ⟨_, List.getElem?_eq_getElem hc2⟩
  obtain ⟨l, hl⟩ : ∃ l, o[choose s]? = some l := ⟨_, List.getElem?_eq_getElem hc⟩
  cases hn : next ⟨s, o⟩ with
  | none => exact .inl ⟨by rw [nx, hn], rfl⟩
  | some q =>
    right
    have hn' := hn
    unfold next at hn'
    split at hn'
    · cases hn'
    rename_i c0
    have c0 := not_or.1 c0
    have c1 := not_or.1 c0.2
    cases hq : s.queue[(turnOf s).toNat]? with
    | none => simp only [hq] at hn'; cases hn'
    | some m =>
      simp only [hq] at hn'
      split at hn'
      · cases hn'
      · have hn' := Option.some.inj hn'
        rw [next1_eq rfl hw hl] at hn'
        refine ⟨(turnOf s).toNat, m, w, l, hq, by have h2 := c1.2; dsimp only at h2; omega, hl, ?_, ?_⟩
        · rw [nx, hn]; simp only; rw [← hn']; rfl
        · rw [← hn']; rfl
end Snd
end Go.HL
