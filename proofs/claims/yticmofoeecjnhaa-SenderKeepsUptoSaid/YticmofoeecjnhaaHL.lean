/- A high-level reading of Go code, and that it is sound: part 3. -/
import Derived.Test.YticmofoeecjnhaaHLb
namespace Go.HL
open Go.RowKit
mutual
def PV.bulk : PV → Nat
  | .v (.string s) => s.size + 1
  | .v _ => 1
  | .sl _ rows => bulkR rows + 1
def bulkL : List PV → Nat
  | [] => 0
  | x :: r => x.bulk + bulkL r
def bulkR : List (List PV) → Nat
  | [] => 0
  | r :: rs => bulkL r + bulkR rs
end
mutual
def dwb {H : Type} : DataW H → Nat
  | .lit (.string bytes) => bytes.length + 1
  | .lit _ => 1
  | .nil => 1
  | .ptr d => dwb d + 1
  | .slice elems spare => dwbL elems + dwbL spare + 1
  | .agg parts => dwbL parts + 1
  | .iface _ d => dwb d + 1
  | .map entries => dwbE entries + 1
  | .held _ => 1
def dwbL {H : Type} : List (DataW H) → Nat
  | [] => 0
  | d :: r => dwb d + dwbL r
def dwbE {H : Type} : List (Lit × DataW H) → Nat
  | [] => 0
  | x :: r => dwbE1 x + dwbE r
def dwbE1 {H : Type} : Lit × DataW H → Nat
  | (.string bytes, d) => bytes.length + dwb d + 1
  | (_, d) => dwb d + 1
end
def suppF (P : Program) (S : TypeId → Bool) : Nat → Nat → List Field → Bool
  | off, tot, [] => Nat.beq off tot
  | off, tot, f :: fs => Nat.beq f.offset off && S f.type && suppF P S (off + P.cellsOf f.type) tot fs
def supp (P : Program) : Nat → TypeId → Bool
  | 0, _ => false
  | n + 1, t => match P.underlying t with
    | some .bool => true
    | some (.int _) => true
    | some .string => true
    | some (.slice e) => supp P n e && Nat.blt 0 (P.cellsOf e)
    | some (.struct fs) => suppF P (supp P n) 0 (P.cellsOf t) fs.toList
    | _ => false
def shpF (P : Program) (S : TypeId → List PV → Prop) : List Field → List PV → Prop
  | [], pvs => pvs = []
  | f :: fs, pvs => ∃ a b, pvs = a ++ b ∧ a.length = P.cellsOf f.type ∧ S f.type a ∧ shpF P S fs b
def shp (P : Program) : Nat → TypeId → List PV → Prop
  | 0, _, _ => False
  | n + 1, t, pvs => match P.underlying t with
    | some .bool => ∃ b, pvs = [.v (.bool b)]
    | some (.int k) => ∃ z, pvs = [.v (.int k z)] ∧ (Lit.int k z).wf = true
    | some .string => ∃ s, pvs = [.v (.string s)] ∧ s.size ≤ maxLen
    | some (.slice e) => ∃ rows, pvs = [.sl (P.cellsOf e) rows] ∧ ∀ r ∈ rows, shp P n e r
    | some (.struct fs) => shpF P (shp P n) fs.toList pvs
    | _ => False
section
variable {H : Type} {enc : TypeId × Value → H} {P : Program} {W : World} {base : Nat} {sp : Nat → Bool} {held : Bool}
abbrev RW (W : World) : Nat → Prop := fun b => b < W.heap.size
theorem cellsOf_at {a : Addr} {n : Nat} {cs : List Value} (h : W.cells? base a n = some cs) : cs.length = n ∧ (∀ k v, cs[k]? = some v → W.cell? (a.add k) = some v) := by
  unfold World.cells? at h
  split at h
  · have hl := mapM_some_length h
    refine ⟨by simpa using hl, fun k v hv => ?_⟩
    have hk : k < n := by
      have := (List.getElem?_eq_some_iff.1 hv).1
      simpa [hl] using this
    have := mapM_some_get h k k (by rw [List.getElem?_range hk])
    rw [this]; exact hv
  · cases h
theorem cell_lt {b o : Nat} {v : Value} (h : W.cell? ⟨b, o, none⟩ = some v) : b < W.heap.size := by
  unfold World.cell? at h
  cases hb : W.heap[b]? with
  | none => simp only [hb] at h; cases h
  | some x => exact (Array.getElem?_eq_some_iff.1 hb).1
theorem bulkL_append : ∀ (a b : List PV), bulkL (a ++ b) = bulkL a + bulkL b
  | [], b => by simp [bulkL]
  | x :: a, b => by simp [bulkL, bulkL_append a b]; omega
theorem trodF_rep {fuel : Nat} {S : TypeId → Bool} {Sh : TypeId → List PV → Prop} {cs : List Value}
    (ih : ∀ t cs d ps, S t = true → DataW.trod enc P W base sp held fuel t cs = some (d, ps) → ∃ pvs, PRepL W (RW W) pvs cs ∧ Sh t pvs ∧ bulkL pvs ≤ dwb d) :
    ∀ (fs : List Field) (off : Nat) (xs : List (DataW H × List MemPlace)), suppF P S off cs.length fs = true → off ≤ cs.length →
      (∀ f ∈ fs, f.offset + P.cellsOf f.type ≤ cs.length) →
      fs.mapM (fun f => DataW.trod enc P W base sp held fuel f.type ((cs.drop f.offset).take (P.cellsOf f.type))) = some xs →
      ∃ pvs, PRepL W (RW W) pvs (cs.drop off) ∧ shpF P Sh fs pvs ∧ bulkL pvs ≤ dwbL (xs.map (·.1))
  | [], off, xs, hs, hle, _, h => by
    simp only [suppF] at hs
    have := Nat.eq_of_beq_eq_true hs
    subst this
    simp only [List.mapM_nil, Option.pure_def, Option.some.injEq] at h
    subst h
    exact ⟨[], by rw [List.drop_eq_nil_of_le (Nat.le_refl _)]; exact .nil, rfl, by simp [bulkL, dwbL]⟩
  | f :: fs, off, xs, hs, hle, hb, h => by
    simp only [suppF, Bool.and_eq_true] at hs
    obtain ⟨⟨h1, h2⟩, h3⟩ := hs
    have h1 := Nat.eq_of_beq_eq_true h1
    subst h1
    simp only [List.mapM_cons, Option.bind_eq_bind, Option.pure_def] at h
    cases hx : DataW.trod enc P W base sp held fuel f.type ((cs.drop f.offset).take (P.cellsOf f.type)) with
    | none => rw [hx] at h; simp at h
    | some x =>
      obtain ⟨d, ps⟩ := x
      rw [hx] at h
      simp only [Option.bind_some] at h
      cases hr : fs.mapM (fun f => DataW.trod enc P W base sp held fuel f.type ((cs.drop f.offset).take (P.cellsOf f.type))) with
      | none => rw [hr] at h; simp at h
      | some r =>
        rw [hr] at h
        simp only [Option.bind_some, Option.some.injEq] at h
        subst h
        obtain ⟨pa, ha1, ha2, ha3⟩ := ih _ _ _ _ h2 hx
        have hbf := hb f (by simp)
        obtain ⟨pb, hb1, hb2, hb3⟩ := trodF_rep ih fs (f.offset + P.cellsOf f.type) r h3 hbf (fun g hg => hb g (by simp [hg])) hr
        have hl := ha1.length
        have htl : ((cs.drop f.offset).take (P.cellsOf f.type)).length = P.cellsOf f.type := by simp; omega
        refine ⟨pa ++ pb, ?_, ⟨pa, pb, rfl, by omega, ha2, hb2⟩, by rw [bulkL_append]; simp only [List.map_cons, dwbL]; omega⟩
        have := ha1.append hb1
        rw [← List.drop_drop, List.take_append_drop] at this
        exact this
theorem suppF_le {S : TypeId → Bool} {tot : Nat} : ∀ {fs : List Field} {off : Nat}, suppF P S off tot fs = true → off ≤ tot ∧ ∀ f ∈ fs, f.offset + P.cellsOf f.type ≤ tot
  | [], off, h => by simp only [suppF] at h; have := Nat.eq_of_beq_eq_true h; exact ⟨by omega, by simp⟩
  | f :: fs, off, h => by
    simp only [suppF, Bool.and_eq_true] at h
    obtain ⟨⟨h1, h2⟩, h3⟩ := h
    have h1 := Nat.eq_of_beq_eq_true h1
    obtain ⟨h4, h5⟩ := suppF_le h3
    refine ⟨by omega, fun g hg => ?_⟩
    rcases List.mem_cons.1 hg with rfl | hg
    · omega
    · exact h5 g hg
theorem trod_rep : ∀ (n fuel : Nat) (t : TypeId) (cs : List Value) (d : DataW H) (ps : List MemPlace), supp P n t = true → DataW.trod enc P W base sp held fuel t cs = some (d, ps) →
    ∃ pvs, PRepL W (RW W) pvs cs ∧ shp P n t pvs ∧ bulkL pvs ≤ dwb d
  | 0, fuel, t, cs, d, ps, hs, h => by cases hs
  | n + 1, 0, t, cs, d, ps, hs, h => by simp [DataW.trod] at h
  | n + 1, fuel + 1, t, cs, d, ps, hs, h => by
    simp only [supp] at hs
    simp only [shp]
    unfold DataW.trod at h
    cases hu : P.underlying t with
    | none => rw [hu] at hs; cases hs
    | some u =>
      rw [hu] at hs h
      cases u with
      | bool =>
        rcases cs with _ | ⟨c, _ | ⟨c2, cs⟩⟩
        · cases h
        · cases c <;> try cases h
          rename_i b
          exact ⟨[.v (.bool b)], .cons (.v _ rfl) .nil, ⟨b, rfl⟩, by simp [bulkL, PV.bulk, dwb]⟩
        · cases c <;> first | cases h | simp at h
      | int k =>
        rcases cs with _ | ⟨c, _ | ⟨c2, cs⟩⟩
        · cases h
        · cases c <;> try cases h
          rename_i k' z
          simp only at h
          split at h
          · rename_i hw
            obtain ⟨rfl, hw⟩ := hw
            cases h
            exact ⟨[.v (.int k' z)], .cons (.v _ rfl) .nil, ⟨z, rfl, hw⟩, by simp [bulkL, PV.bulk, dwb]⟩
          · cases h
        · cases c <;> first | cases h | simp at h
      | string =>
        rcases cs with _ | ⟨c, _ | ⟨c2, cs⟩⟩
        · cases h
        · cases c <;> try cases h
          rename_i s
          simp only at h
          split at h
          · rename_i hw
            cases h
            exact ⟨[.v (.string s)], .cons (.v _ rfl) .nil, ⟨s, rfl, hw⟩, by simp only [bulkL, PV.bulk, dwb, Array.length_toList, Nat.add_zero]; exact Nat.le_refl _⟩
          · cases h
        · cases c <;> first | cases h | simp at h
      | slice e =>
        simp only [Bool.and_eq_true] at hs
        obtain ⟨hs, hpos⟩ := hs
        have hpos : 0 < P.cellsOf e := Nat.le_of_ble_eq_true hpos
        rcases cs with _ | ⟨c, _ | ⟨c2, cs⟩⟩
        · cases h
        · cases c <;> try cases h
          rename_i a len cap
          cases a with
          | none =>
            cases len with
            | zero => cases cap with
              | zero =>
                cases h
                exact ⟨[.sl (P.cellsOf e) []], .cons (.sl0 _ _ _ (Nat.zero_le _)) .nil, ⟨[], rfl, by simp⟩, by simp [bulkL, PV.bulk, bulkR, dwb]⟩
              | succ cap => cases h
            | succ len => cases h
          | some a =>
            simp only at h
            split at h
            · rename_i hb
              obtain ⟨hb, hlc, hcm⟩ := hb
              cases he : (List.range len).mapM (fun i => (W.cells? base (a.add (i * P.cellsOf e)) (P.cellsOf e)).bind (DataW.trod enc P W base sp held fuel e)) with
              | none => rw [he] at h; simp at h
              | some elems =>
                rw [he] at h
                simp only [Option.bind_some] at h
                have hle := mapM_some_length he
                simp only [List.length_range] at hle
                have hd : dwbL (elems.map (·.1)) + 1 ≤ dwb d := by
                  obtain ⟨rest, hr, hx⟩ := Option.map_eq_some_iff.1 h
                  cases hx
                  simp only [dwb]
                  omega
                -- each element
                have hat : ∀ i, i < len → ∃ cs x, W.cells? base (a.add (i * P.cellsOf e)) (P.cellsOf e) = some cs ∧ elems[i]? = some x ∧ DataW.trod enc P W base sp held fuel e cs = some x := by
                  intro i hi
                  have hg := mapM_some_get he i i (by rw [List.getElem?_range hi])
                  obtain ⟨x, hx⟩ : ∃ x, elems[i]? = some x := ⟨_, List.getElem?_eq_getElem (by omega)⟩
                  rw [hx] at hg
                  cases hc : W.cells? base (a.add (i * P.cellsOf e)) (P.cellsOf e) with
                  | none => rw [hc] at hg; simp at hg
                  | some cs => rw [hc] at hg; exact ⟨cs, x, rfl, hx, by simpa using hg⟩
                cases len with
                | zero =>
                  have : elems = [] := List.eq_nil_of_length_eq_zero hle
                  subst this
                  refine ⟨[.sl (P.cellsOf e) []], .cons (.sl0 _ _ _ hcm) .nil, ⟨[], rfl, by simp⟩, ?_⟩
                  simp [bulkL, PV.bulk, bulkR] at hd ⊢
                  omega
                | succ len =>
                  have hspot : a = ⟨a.block, a.off, none⟩ := by
                    obtain ⟨cs0, x0, h1, _, _⟩ := hat 0 (by omega)
                    obtain ⟨hl0, hc0⟩ := cellsOf_at h1
                    have h2 := hc0 0 (cs0[0]'(by omega)) (List.getElem?_eq_getElem (by omega))
                    simp only [Nat.zero_mul, Addr.add, if_true] at h2
                    obtain ⟨blk, off, spot⟩ := a
                    unfold World.cell? at h2
                    split at h2
                    · split at h2
                      · cases h2
                      · rename_i hsn
                        cases spot with
                        | none => rfl
                        | some x => simp at hsn
                    · cases h2
                  obtain ⟨blk, off, spot⟩ := a
                  simp only [Addr.mk.injEq, true_and] at hspot
                  subst hspot
                  have hadd : ∀ off j, (⟨blk, off, none⟩ : Addr).add j = ⟨blk, off + j, none⟩ := by
                    intro off j; unfold Addr.add; split
                    · rename_i h0; subst h0; rfl
                    · rfl
                  have hrow : ∀ i, i < len + 1 → ∃ r : List PV, r.length = P.cellsOf e ∧ shp P n e r ∧ (∃ x, elems[i]? = some x ∧ bulkL r ≤ dwb x.1) ∧ ∀ (k : Nat) y, r[k]? = some y → ∃ cv, W.cell? ⟨blk, off + (i * P.cellsOf e + k), none⟩ = some cv ∧ PRep W (RW W) y cv := by
                    intro i hi
                    obtain ⟨cs, x, h1, h2, h3⟩ := hat i hi
                    obtain ⟨r, h4, h5, h6⟩ := trod_rep n fuel e cs x.1 x.2 hs h3
                    obtain ⟨h7, h8⟩ := cellsOf_at h1
                    refine ⟨r, by rw [← h7]; exact h4.length.symm, h5, ⟨x, h2, h6⟩, fun k y hk => ?_⟩
                    obtain ⟨v, hv, hp⟩ := h4.get k y hk
                    have h9 := h8 k v hv
                    rw [hadd, hadd] at h9
                    exact ⟨v, by rw [← h9, Nat.add_assoc], hp⟩
                  let row : Nat → List PV := fun i => if hi : i < len + 1 then Classical.choose (hrow i hi) else []
                  have hrowi : ∀ i (hi : i < len + 1), (row i).length = P.cellsOf e ∧ shp P n e (row i) ∧ (∃ x, elems[i]? = some x ∧ bulkL (row i) ≤ dwb x.1) ∧ ∀ (k : Nat) y, (row i)[k]? = some y → ∃ cv, W.cell? ⟨blk, off + (i * P.cellsOf e + k), none⟩ = some cv ∧ PRep W (RW W) y cv := by
                    intro i hi
                    have := Classical.choose_spec (hrow i hi)
                    simp only [row, dif_pos hi]
                    exact this
                  let rows := (List.range (len + 1)).map row
                  have hrl : rows.length = len + 1 := by simp [rows]
                  have hmem : ∀ r ∈ rows, ∃ i, i < len + 1 ∧ r = row i := by
                    intro r hr
                    obtain ⟨i, hi, rfl⟩ := List.mem_map.1 hr
                    exact ⟨i, List.mem_range.1 hi, rfl⟩
                  have hlens : ∀ r ∈ rows, r.length = P.cellsOf e := by
                    intro r hr
                    obtain ⟨i, hi, rfl⟩ := hmem r hr
                    exact (hrowi i hi).1
                  have hcell : ∀ k y, rows.flatten[k]? = some y → ∃ cv, W.cell? ⟨blk, off + k, none⟩ = some cv ∧ PRep W (RW W) y cv := by
                    intro k y hk
                    obtain ⟨i, j, r, e1, hj, hr, hy⟩ := flatten_at hlens hk
                    have hi : i < len + 1 := by
                      have := (List.getElem?_eq_some_iff.1 hr).1
                      rw [hrl] at this; exact this
                    have hre : r = row i := by
                      simp only [rows, List.getElem?_map, List.getElem?_range hi, Option.map_some, Option.some.injEq] at hr
                      exact hr.symm
                    subst hre
                    obtain ⟨cv, h1, h2⟩ := (hrowi i hi).2.2.2 j y hy
                    exact ⟨cv, by rw [e1]; exact h1, h2⟩
                  have hblk : blk < W.heap.size := by
                    obtain ⟨hl0, _, _, hc0⟩ := hrowi 0 (by omega)
                    obtain ⟨cv, h1, _⟩ := hc0 0 ((row 0)[0]'(by omega)) (List.getElem?_eq_getElem (by omega))
                    exact cell_lt h1
                  have hprep : PRep W (RW W) (.sl (P.cellsOf e) rows) (.slice (some ⟨blk, off, none⟩) (len + 1) cap) := by
                    have := PRep.sl (w := W) (R := RW W) (P.cellsOf e) rows blk off cap (fun k => (W.cell? ⟨blk, off + k, none⟩).getD undef) (by omega) hcm hlens hblk
                      (fun k y hk => by obtain ⟨cv, h1, _⟩ := hcell k y hk; simp only [h1]; rfl) (fun k y hk => by obtain ⟨cv, h1, h2⟩ := hcell k y hk; simp only [h1]; exact h2)
                    rw [hrl] at this
                    exact this
                  refine ⟨[.sl (P.cellsOf e) rows], .cons hprep .nil, ⟨rows, rfl, fun r hr => ?_⟩, ?_⟩
                  · obtain ⟨i, hi, rfl⟩ := hmem r hr
                    exact (hrowi i hi).2.1
                  · have hbr : ∀ (es : List (DataW H × List MemPlace)) (g : Nat → List PV) (m : Nat), es.length = m → (∀ i, i < m → ∃ x, es[i]? = some x ∧ bulkL (g i) ≤ dwb x.1) → bulkR ((List.range m).map g) ≤ dwbL (es.map (·.1)) := by
                      intro es
                      induction es with
                      | nil => intro g m hm _; simp at hm; subst hm; simp [bulkR, dwbL]
                      | cons x es ih =>
                        intro g m hm hg
                        simp at hm
                        subst hm
                        rw [List.range_succ_eq_map]
                        simp only [List.map_cons, List.map_map, bulkR, dwbL]
                        obtain ⟨x0, h1, h2⟩ := hg 0 (by omega)
                        simp at h1
                        subst h1
                        have := ih (g ∘ Nat.succ) es.length rfl fun i hi => by
                          obtain ⟨y, h3, h4⟩ := hg (i + 1) (by omega)
                          exact ⟨y, by simpa using h3, h4⟩
                        omega
                    have : bulkR rows ≤ dwbL (elems.map (·.1)) := hbr elems row (len + 1) hle fun i hi => (hrowi i hi).2.2.1
                    simp only [bulkL, PV.bulk]
                    show bulkR rows + 1 + 0 ≤ dwb d
                    omega
            · cases h
        · cases c <;> first | cases h | simp at h
      | struct fs =>
        simp only at h
        split at h
        · rename_i hl
          obtain ⟨xs, hx, hx2⟩ := Option.map_eq_some_iff.1 h
          cases hx2
          rw [← hl] at hs
          obtain ⟨h1, h2⟩ := suppF_le hs
          obtain ⟨pvs, h3, h4, h5⟩ := trodF_rep (S := supp P n) (Sh := shp P n) (fun t cs d ps => trod_rep n fuel t cs d ps) fs.toList 0 xs hs h1 h2 hx
          exact ⟨pvs, by simpa using h3, h4, by simp only [dwb]; omega⟩
        · cases h
      | _ => cases hs
def argHV (P : Program) (t : TypeId) (pvs : List PV) : HV := match P.underlying t with
  | some (.struct _) => .agg (pvs.map .p)
  | _ => match pvs with | [x] => .p x | _ => .any
theorem prepL_rep {m : LMap} {R : Nat → Prop} {pvs : List PV} {vs : List Value} (h : PRepL W R pvs vs) : HRepL m W R (pvs.map .p) vs := by
  induction h with
  | nil => simp only [List.map_nil, HRepL]
  | cons h _ ih => simp only [List.map_cons, HRepL]; exact ⟨_, _, rfl, by simp only [HRep]; exact h, ih⟩
theorem arg_rep {n : Nat} {t : TypeId} {v : Value} {d : DataW H} {ps : List MemPlace} {r : Reach} {b0 : Nat} {m : LMap} (hs : supp P n t = true) (hok : Value.okWide P W r b0 t v) (h : DataW.Trod enc P W base sp held t v d ps) :
    ∃ pvs, shp P n t pvs ∧ bulkL pvs ≤ dwb d ∧ HRep m W (RW W) (argHV P t pvs) v := by
  obtain ⟨fuel, h⟩ := h
  obtain ⟨pvs, h1, h2, h3⟩ := trod_rep n fuel t _ d ps hs h
  refine ⟨pvs, h2, h3, ?_⟩
  cases n with
  | zero => cases hs
  | succ n =>
    have one : ∀ {x : PV}, pvs = [x] → v.cells = #[v] → HRep m W (RW W) (.p x) v := by
      intro x hx hv
      subst hx
      rw [hv] at h1
      cases h1 with
      | cons h _ => simp only [HRep]; exact h
    simp only [supp] at hs
    simp only [shp] at h2
    simp only [Value.okWide] at hok
    unfold argHV
    cases hu : P.underlying t with
    | none => rw [hu] at hs; cases hs
    | some u =>
      rw [hu] at hs h2 hok
      cases u with
      | bool =>
        simp only [Cell.okWide, Cell.ok, hu] at hok
        obtain ⟨b, rfl⟩ := h2
        cases v <;> try exact hok.elim
        exact one rfl rfl
      | int k =>
        simp only [Cell.okWide, Cell.ok, hu] at hok
        obtain ⟨b, rfl, _⟩ := h2
        cases v <;> try exact hok.elim
        exact one rfl rfl
      | string =>
        simp only [Cell.okWide, Cell.ok, hu] at hok
        obtain ⟨b, rfl, _⟩ := h2
        cases v <;> try exact hok.elim
        exact one rfl rfl
      | slice e =>
        simp only [Cell.okWide, Cell.ok, hu] at hok
        obtain ⟨b, rfl, _⟩ := h2
        cases v <;> try exact hok.elim
        exact one rfl rfl
      | struct fs =>
        obtain ⟨cs, rfl, _, _⟩ := hok
        simp only [HRep]
        exact ⟨cs, rfl, prepL_rep h1⟩
      | _ => cases hs
def shpL (P : Program) (n : Nat) : List TypeId → List (List PV) → Prop
  | [], [] => True
  | t :: ts, x :: xs => shp P n t x ∧ shpL P n ts xs
  | _, _ => False
def argsHV (P : Program) : List TypeId → List (List PV) → List HV
  | t :: ts, x :: xs => argHV P t x :: argsHV P ts xs
  | _, _ => []
theorem args_rep {n : Nat} {r : Reach} {b0 : Nat} {m : LMap} : ∀ {ts : List TypeId} {vs : List Value} {ds : List (DataW H)} {ps : List MemPlace}, (∀ t ∈ ts, supp P n t = true) → (∀ (j : Nat) t v, ts[j]? = some t → vs[j]? = some v → Value.okWide P W r b0 t v) →
    DataW.TrodAll enc P W base sp held ts vs ds ps → ∃ L, shpL P n ts L ∧ bulkR L ≤ dwbL ds ∧ HRepL m W (RW W) (argsHV P ts L) vs ∧ ds.length = ts.length
  | [], [], [], ps, _, _, _ => ⟨[], trivial, by simp [bulkR, dwbL], by simp only [argsHV, HRepL], rfl⟩
  | t :: ts, v :: vs, d :: ds, ps, hs, hok, h => by
    obtain ⟨p, q, h1, h2, rfl⟩ := h
    obtain ⟨x, h3, h4, h5⟩ := arg_rep (m := m) (hs t (by simp)) (hok 0 t v rfl rfl) h1
    obtain ⟨L, h6, h7, h8, h9⟩ := args_rep (fun t ht => hs t (by simp [ht])) (fun j t v hj hv => hok (j + 1) t v (by simpa using hj) (by simpa using hv)) h2
    exact ⟨x :: L, ⟨h3, h6⟩, by simp only [bulkR, dwbL]; omega, by simp only [argsHV, HRepL]; exact ⟨v, vs, rfl, h5, h8⟩, by simp [h9]⟩
  | [], [], _ :: _, _, _, _, h => h.elim
  | [], _ :: _, _, _, _, _, h => h.elim
  | _ :: _, [], _, _, _, _, h => h.elim
  | _ :: _, _ :: _, [], _, _, _, h => h.elim
theorem trodAll_below (hl : laidOutB P = true) {W' : World} (hb : Below W.heap.size W W') : ∀ {ts : List TypeId} {vs : List Value} {ds : List (DataW H)} {ps : List MemPlace}, (∀ t ∈ ts, P.readableRec t = true ∧ t < P.types.size) →
    DataW.TrodAll enc P W 0 (fun _ => true) true ts vs ds ps → (∀ x ∈ ps, x.block < W.heap.size) → DataW.TrodAll enc P W' 0 (fun b => decide (b < W.heap.size)) true ts vs ds ps
  | [], [], [], ps, _, h, _ => h
  | t :: ts, v :: vs, d :: ds, ps, hr, h, hlt => by
    obtain ⟨p, q, h1, h2, rfl⟩ := h
    exact ⟨p, q, Below.trod hl (hr t (by simp)).1 (hr t (by simp)).2 h1 hb fun x hx => hlt x (by simp [hx]), trodAll_below hl hb (fun t ht => hr t (by simp [ht])) h2 fun x hx => hlt x (by simp [hx]), rfl⟩
  | [], [], _ :: _, _, _, h, _ => h.elim
  | [], _ :: _, _, _, _, h, _ => h.elim
  | _ :: _, [], _, _, _, h, _ => h.elim
  | _ :: _, _ :: _, [], _, _, h, _ => h.elim
theorem law_contract {f : FuncId} {fn : Func} {s : ChangeSpec} {args : Array Value} {ds gs : List (DataW H)} {before : List MemPlace} {b0 : Nat} {tb : TypeId} (n : Nat) (hl : laidOutB P = true)
    (hsupp : fn.params.toList.all (supp P n) = true) (hread : fn.params.toList.all (fun t => P.readableRec t && decide (t < P.types.size)) = true)
    (hrt : fn.resultTypes = #[tb]) (htb : P.underlying tb = some .bool) (hvars : s.vars = []) (hfn : ∀ ds : List (DataW H), ds.length = fn.params.toList.length → (s.fn H ds).results = [.lit (.bool true)] ∧ (s.fn H ds).args = ds ∧ (s.fn H ds).vars = [])
    (hval : ∀ (j : Nat) t v, fn.params[j]? = some t → args[j]? = some v → Value.okWide P W .any b0 t v)
    (hW : DataW.Whole enc P fn.params.toList s.vars false W args.toList ds gs before)
    (hspec : ∀ L, shpL P n fn.params.toList L → bulkR L ≤ dwbL ds → FunOK P f (argsHV P fn.params.toList L) noHeap (hbool true) noHeap) :
    Calls P f args W fun e W' => ∃ v, e = .returned v ∧ s.post enc P fn false true false false W args v W' := by
  have hW' := hW
  obtain ⟨p, q, hA, hV, rfl, hfz, hnd⟩ := hW
  have hVe : gs = [] ∧ q = [] := by
    rw [hvars] at hV
    cases gs with
    | nil => exact ⟨rfl, hV⟩
    | cons => exact hV.elim
  obtain ⟨rfl, rfl⟩ := hVe
  obtain ⟨L, h1, h2, h3, h4⟩ := args_rep (m := fun _ => none) (n := n) (fun t ht => List.all_eq_true.1 hsupp t ht) (fun j t v hj hv => hval j t v (by simpa using hj) (by simpa using hv)) hA
  let Γ : Ctx := ⟨fun _ => True, W, fun _ => False, fun _ => none⟩
  have hok : HeapOK Γ (fun _ => none) noHeap W := ⟨Nat.le_refl _, rfl, rfl, rfl, fun _ _ _ => rfl, fun _ _ => rfl, (fun id b hb => by cases hb), (fun id b hb => by cases hb), (fun id id' b b' l l' hb => by cases hb), fun b hb => hb.elim⟩
  have hrep : HRepL (fun _ => none) W (RR Γ (fun _ => none) noHeap W) (argsHV P fn.params.toList L) args.toList := HRepL.mono (.refl _) (fun b hb => ⟨rfl, .inl trivial, hb, noOwned⟩) _ _ h3
  obtain ⟨-, hcalls⟩ := hspec L h1 h2 Γ _ W args.toList hok hrep rfl
  have hat : args.toList.toArray = args := by simp
  rw [hat] at hcalls
  refine hcalls.mono fun e W1 he => ?_
  obtain ⟨v, m', rfl, hok', hv, _⟩ := he
  have hvb := bool_inv hv
  subst hvb
  have hb : Below W.heap.size W W1 := ⟨hok'.os, hok'.tape, hok'.output, hok'.size, fun k hk => hok'.frame k hk fun h => h⟩
  obtain ⟨hf1, hf2, hf3⟩ := hfn (ds ++ []) (by simp [h4])
  refine ⟨_, rfl, ds, [], p ++ [], [], p, [], hW', ?_, ?_, ?_, hb.frame _, fun h => by cases h⟩
  · rw [hf1, hrt]
    have : (Value.bool true).resultList (#[tb] : Array TypeId).size = [.bool true] := by simp [Value.resultList]
    rw [this]
    exact ⟨[], [], ⟨1, by simp [DataW.trod, htb, Value.cells]⟩, rfl, rfl⟩
  · rw [hf2]
    have hlt : ∀ x ∈ p, x.block < W.heap.size := fun x hx => by simpa using hW'.lt x (by simpa using hx)
    have := trodAll_below hl hb (fun t ht => by
      have := List.all_eq_true.1 hread t ht
      simp only [Bool.and_eq_true, decide_eq_true_eq] at this
      exact this) hA hlt
    simpa using this
  · rw [hvars, hf3]
    rfl
end
end Go.HL
namespace Go.HL
section
variable {P : Program} {n : Nat} {t e : TypeId} {pvs : List PV}
theorem shp_int {k : IntKind} (hu : P.underlying t = some (.int k)) (h : shp P n t pvs) : ∃ z, pvs = [.v (.int k z)] ∧ (Lit.int k z).wf = true := by
  cases n with
  | zero => exact h.elim
  | succ n => simpa only [shp, hu] using h
theorem shp_bool (hu : P.underlying t = some .bool) (h : shp P n t pvs) : ∃ b, pvs = [.v (.bool b)] := by
  cases n with
  | zero => exact h.elim
  | succ n => simpa only [shp, hu] using h
theorem shp_slice (hu : P.underlying t = some (.slice e)) (h : shp P n t pvs) : ∃ rows, pvs = [.sl (P.cellsOf e) rows] ∧ ∀ r ∈ rows, shp P (n - 1) e r := by
  cases n with
  | zero => exact h.elim
  | succ n => simpa only [shp, hu, Nat.add_sub_cancel] using h
theorem shp_struct {fs : Array Field} (hu : P.underlying t = some (.struct fs)) (h : shp P n t pvs) : shpF P (shp P (n - 1)) fs.toList pvs := by
  cases n with
  | zero => exact h.elim
  | succ n => simpa only [shp, hu, Nat.add_sub_cancel] using h
theorem shpF_cons {S : TypeId → List PV → Prop} {f : Field} {fs : List Field} (h : shpF P S (f :: fs) pvs) : ∃ a b, pvs = a ++ b ∧ S f.type a ∧ shpF P S fs b := by
  obtain ⟨a, b, h1, _, h2, h3⟩ := h
  exact ⟨a, b, h1, h2, h3⟩
theorem rows_of {β : Type} {row : β → List PV} {Q : β → Prop} : ∀ {rows : List (List PV)}, (∀ r ∈ rows, ∃ x, r = row x ∧ Q x) → ∃ xs : List β, rows = xs.map row ∧ ∀ x ∈ xs, Q x
  | [], _ => ⟨[], rfl, by simp⟩
  | r :: rows, h => by
    obtain ⟨x, rfl, hx⟩ := h r (by simp)
    obtain ⟨xs, rfl, hxs⟩ := rows_of (rows := rows) fun r hr => h r (by simp [hr])
    exact ⟨x :: xs, rfl, by intro y hy; rcases List.mem_cons.1 hy with rfl | hy; exact hx; exact hxs y hy⟩
theorem bulkR_ge : ∀ {rows : List (List PV)}, (∀ r ∈ rows, 1 ≤ bulkL r) → rows.length ≤ bulkR rows
  | [], _ => by simp [bulkR]
  | r :: rows, h => by
    have h1 := h r (by simp)
    have h2 := bulkR_ge (rows := rows) fun r hr => h r (by simp [hr])
    simp only [bulkR, List.length_cons]; omega
theorem wf_i64 {z : Int} (h : (Lit.int .i64 z).wf = true) : -9223372036854775808 ≤ z ∧ z ≤ 9223372036854775807 := by
  simpa [Lit.wf, IntKind.min, IntKind.max, IntKind.signed, IntKind.bits] using h
theorem shpL_cons {ts : List TypeId} {L : List (List PV)} (h : shpL P n (t :: ts) L) : ∃ x xs, L = x :: xs ∧ shp P n t x ∧ shpL P n ts xs := by
  cases L with
  | nil => exact h.elim
  | cons x xs => exact ⟨x, xs, rfl, h.1, h.2⟩
theorem shpL_nil {L : List (List PV)} (h : shpL P n [] L) : L = [] := by
  cases L with
  | nil => rfl
  | cons x xs => exact h.elim
end
end Go.HL
namespace Go.HL
abbrev pi (n : Int) : PV := .v (.int .i64 n)
abbrev pb (b : Bool) : PV := .v (.bool b)
abbrev ints (l : List Int) : HV := .p (.sl 1 (l.map fun n => [pi n]))
def inI (z : Int) : Prop := -9223372036854775808 ≤ z ∧ z ≤ 9223372036854775807
section
variable {P : Program} {n c : Nat} {t e : TypeId} {pvs : List PV}
theorem inI_of {z : Int} (h : (Lit.int .i64 z).wf = true) : inI z := wf_i64 h
theorem inI.fit {z : Int} (h : inI z) : W z = z := W_fit h.1 h.2
theorem shp_list {α : Type} {row : α → List PV} {Q : α → Prop} (hu : P.underlying t = some (.slice e)) (hc : P.cellsOf e = c) (he : ∀ r, shp P (n - 1) e r → ∃ x, r = row x ∧ Q x) (h : shp P n t pvs) :
    ∃ l : List α, pvs = [.sl c (l.map row)] ∧ ∀ y ∈ l, Q y := by
  obtain ⟨rows, h1, h2⟩ := shp_slice hu h
  obtain ⟨l, h3, h4⟩ := rows_of (row := row) (Q := Q) fun r hr => he r (h2 r hr)
  exact ⟨l, by rw [h1, h3, hc], h4⟩
theorem shp_bytes (hu : P.underlying t = some (.slice e)) (hi : P.underlying e = some (.int .u8)) (hc : P.cellsOf e = 1) (h : shp P n t pvs) : ∃ l : List UInt8, pvs = [.sl 1 (l.map bRow)] := by
  obtain ⟨l, h1, -⟩ := shp_list (row := bRow) (Q := fun _ => True) hu hc (fun r hr => by
    obtain ⟨z, h1, h2⟩ := shp_int hi hr
    have h3 : 0 ≤ z ∧ z ≤ 255 := by simpa [Lit.wf, IntKind.min, IntKind.max, IntKind.signed, IntKind.bits] using h2
    refine ⟨UInt8.ofNat z.toNat, ?_, trivial⟩
    rw [h1]
    have : ((UInt8.ofNat z.toNat).toNat : Int) = z := by
      rw [UInt8.toNat_ofNat']; omega
    simp only [bRow, this]) h
  exact ⟨l, h1⟩
theorem arg_slice {rows : List (List PV)} {k : Nat} (hu : P.underlying t = some (.slice e)) : argHV P t [.sl k rows] = .p (.sl k rows) := by unfold argHV; rw [hu]
end
end Go.HL
namespace Go.HL
theorem hrow_at {α : Type} {f : α → List PV} {l : List α} {z : Int} {K : List PV → Prop} (k : Nat) (hz : z = k) (h : k < l.length) (hk : K (f l[k])) : hrow (l.map f) z K :=
  ⟨_, by omega, by rw [hz, Int.toNat_natCast, List.getElem?_map, List.getElem?_eq_getElem h]; rfl, hk⟩
theorem hsub_at {α : Type} {f : α → List PV} {l : List α} {o n : Nat} {K : List (List PV) → Prop} (h : o + n ≤ l.length) (hk : K (((l.drop o).take n).map f)) : hsub (l.map f) o n K :=
  ⟨_, rfl, by rw [List.length_map]; exact h, by rw [← List.map_drop, ← List.map_take]; exact hk⟩
end Go.HL
namespace Go.HL
def by8 (z : Int) : UInt8 := UInt8.ofNat (z % 256).toNat
theorem by8_toNat (z : Int) : ((by8 z).toNat : Int) = z % 256 := by
  unfold by8
  rw [UInt8.toNat_ofNat']; omega
theorem wrap8 (z : Int) : IntKind.u8.wrap z = ((by8 z).toNat : Int) := by
  rw [by8_toNat]
  unfold IntKind.wrap
  simp [IntKind.bits, IntKind.signed]
theorem hwrap_by8 {z : Int} {K : Int → Prop} (h : K ((by8 z).toNat : Int)) : hwrap .u8 z K := ⟨_, (wrap8 z).symm, h⟩
abbrev byts (l : List UInt8) : HV := .p (.sl 1 (l.map bRow))
def enc16 (n : Int) : List UInt8 := [by8 (n / 256), by8 n]
def dec16 (a b : UInt8) : Int := a.toNat * 256 + b.toNat
end Go.HL
namespace Go.HL
theorem and_tag (n : Int) : bits .and .i64 n 65535 = n % 65536 := by
  have h127 : (BitVec.ofInt 64 65535).toNat = 2 ^ 16 - 1 := by decide
  have key : (BitVec.ofInt 64 n &&& BitVec.ofInt 64 65535).toNat = (n % ((2 ^ 64 : Nat) : Int)).toNat % 2 ^ 16 := by
    rw [BitVec.toNat_and, BitVec.toNat_ofInt, h127, Nat.and_two_pow_sub_one_eq_mod]
  show IntKind.i64.wrap ((BitVec.ofInt 64 n &&& BitVec.ofInt 64 65535).toNat : Nat) = n % 65536
  rw [key]
  rw [show IntKind.i64.wrap (((n % ((2 ^ 64 : Nat) : Int)).toNat % 2 ^ 16 : Nat) : Int) = W (((n % ((2 ^ 64 : Nat) : Int)).toNat % 2 ^ 16 : Nat) : Int) from rfl, W_fit (by omega) (by omega)]
  omega
end Go.HL
namespace Go.HL
theorem lk_cons {α : Type} {d : α} {i : Nat} {x : α} {L : List (Nat × α)} : lk d ((i, x) :: L) = upd (lk d L) i x := by
  funext j; simp only [lk, upd]
theorem upd_upd {α : Type} (f : Nat → α) (i : Nat) (x y : α) : upd (upd f i x) i y = upd f i y := by
  funext j
  by_cases h : j = i
  · subst h; rw [upd_same, upd_same]
  · rw [upd_other _ _ h, upd_other _ _ h, upd_other _ _ h]
section
variable {P : Program}
theorem funOK_osl {f : FuncId} {id : Nat} {t : TypeId} {n : Nat} {rows : List (List PV)} {rest : List HV} {L : List (Nat × HSlot)} {r : HV} {H' : Nat → HSlot}
    (h : FunOK P f (.osl id n 0 rows.length :: rest) (lk .free ((id, .live (.row t n rows)) :: L)) r H') : FunOK P f (.own id :: rest) (lk .free ((id, .live (.row t n rows)) :: L)) r H' := by
  intro Γ m w vals hok hx h0
  have hH : lk .free ((id, HSlot.live (.row t n rows)) :: L) id = .live (.row t n rows) := by rw [lk_cons, upd_same]
  obtain ⟨l, hl, hbr, _⟩ := hok.live id _ hH
  obtain ⟨h1, h2, h3⟩ := hbr
  refine h Γ m w vals hok ?_ h0
  simp only [HRepL] at hx ⊢
  obtain ⟨v, vs, rfl, hv, hvs⟩ := hx
  refine ⟨v, vs, rfl, ?_, hvs⟩
  simp only [HRep] at hv ⊢
  obtain ⟨l', hl', rfl⟩ := hv
  rw [hl] at hl'; cases hl'
  rcases h3 with ⟨hn, h3⟩ | ⟨hn, h4, h5, _⟩
  · subst h3
    exact ⟨l, none, hl, by simp, by simp [Loc.room, hn], by simp [hdr, hn, Loc.room], fun _ => by simp [Loc.at, hn]⟩
  · exact ⟨l, some ⟨l.blk, 0, none⟩, hl, by simp [Loc.room, hn]; exact h4, by simp [Loc.room, hn]; exact h5, by simp [hdr, hn, h1, Loc.room], fun _ => by simp [Loc.at, hn]⟩
theorem funOK_win {f : FuncId} {args : List HV} {H : Nat → HSlot} {id d : Nat} {b : HBlk} {t : TypeId} {n k : Nat} {rows : List (List PV)} {L : List (Nat × HSlot)}
    (h : FunOK P f args H (.osl id n 0 k) (lk .free ((id, .live b) :: L))) (hb : b = .row t n rows ∨ ∃ c, b = .buf t n rows c) (hk : k ≤ rows.length) (hd : lk .free L d = .free) (hid : d ≠ id) :
    FunOK P f args H (.own d) (lk .free ((id, .dead) :: (d, .live (.row t n (rows.take k))) :: L)) := by
  intro Γ m w vals hok hx h0
  obtain ⟨hcf, hcalls⟩ := h Γ m w vals hok hx h0
  refine ⟨hcf, hcalls.mono fun e w' he => ?_⟩
  obtain ⟨v, m', rfl, hok', hv, hpin⟩ := he
  have hH : lk .free ((id, HSlot.live b) :: L) id = .live b := by rw [lk_cons, upd_same]
  have hdf : lk .free ((id, HSlot.live b) :: L) d = .free := by rw [lk_cons, upd_other _ _ hid]; exact hd
  obtain ⟨l, hl, hbr, _⟩ := hok'.live id _ hH
  have heq : ∀ y : HSlot, upd (upd (lk .free ((id, HSlot.live b) :: L)) id .dead) d y = lk .free ((id, .dead) :: (d, y) :: L) := by
    intro y
    rw [lk_cons, lk_cons, lk_cons, upd_upd, upd_comm _ _ _ (Ne.symm hid)]
  simp only [HRep] at hv
  obtain ⟨l', a, hl', g1, g2, rfl, g5⟩ := hv
  rw [hl] at hl'; cases hl'
  have g5 := g5 (.inr trivial)
  have hlt : ((rows.take k)).length = k := by simp; omega
  have hlens : (∀ r ∈ rows, r.length = n) ∧ (l.nil = true → rows = []) ∧ (l.nil = false → rows.length ≤ l.cap ∧ l.cap ≤ maxLen ∧ ∃ arr : Array Value, w'.heap[l.blk]? = some (.cells arr t (0, 0)) ∧ arr.size = l.cap * n ∧ ∀ (k : Nat) x, rows.flatten[k]? = some x → ∃ cv, arr[k]? = some cv ∧ PRep w' (RR Γ m' (lk .free ((id, HSlot.live b) :: L)) w') x cv) := by
    rcases hb with rfl | ⟨c, rfl⟩
    · obtain ⟨q1, q2, q3⟩ := hbr
      refine ⟨q2, fun hn => ?_, fun hn => ?_⟩
      · rcases q3 with ⟨_, q3⟩ | ⟨q3, _⟩
        · exact q3
        · rw [hn] at q3; cases q3
      · rcases q3 with ⟨q3, _⟩ | ⟨_, q4, q5, q6⟩
        · rw [hn] at q3; cases q3
        · exact ⟨q4, q5, q6⟩
    · obtain ⟨q1, q2, q3, q4, q5, q6⟩ := hbr
      exact ⟨q3, (fun hn => by rw [hn] at q1; cases q1), fun _ => ⟨q4, q5, q6⟩⟩
  obtain ⟨c1, c2, c3⟩ := hlens
  cases hn : l.nil with
  | true =>
    have hr0 := c2 hn
    subst hr0
    have hk0 : k = 0 := by simpa using hk
    subst hk0
    have hdrop := WS.drop hok' hH
    have hf2 : upd (lk .free ((id, HSlot.live b) :: L)) id .dead d = .free := (upd_other _ _ hid).trans hdf
    obtain ⟨m2, hws, hm2⟩ := WS.newNil hdrop.ok hf2 t n
    rw [heq] at hws
    refine ⟨_, m2, rfl, hws.ok, ?_, fun i l hp hi => (hdrop.ext.trans hws.ext) _ _ (hpin i l hp hi)⟩
    simp only [HRep]
    refine ⟨_, hm2, ?_⟩
    rw [g5]
    simp [hdr, Loc.at, Loc.room, hn]
  | false =>
    obtain ⟨c4, c5, arr, c6, c7, c8⟩ := c3 hn
    obtain ⟨m2, hws, hm2⟩ := WS.rename hok' hH hl hn hdf (b' := .row t n (rows.take k)) k (w' := w') rfl rfl rfl rfl (fun _ _ => rfl) fun m3 R' hext hkk =>
      ⟨by simp; omega, fun r hr => c1 r (List.mem_of_mem_take hr), .inr ⟨rfl, by simp; omega, c5, arr, c6, c7, fun j x hj => by
        have : rows.flatten = (rows.take k).flatten ++ (rows.drop k).flatten := by rw [← List.flatten_append, List.take_append_drop]
        have hj' : rows.flatten[j]? = some x := by rw [this, List.getElem?_append_left ((List.getElem?_eq_some_iff.1 hj).1)]; exact hj
        obtain ⟨cv, q1, q2⟩ := c8 j x hj'
        exact ⟨cv, q1, q2.mono hkk⟩⟩⟩
    rw [heq] at hws
    refine ⟨_, m2, rfl, hws.ok, ?_, fun i l hp hi => hws.ext _ _ (hpin i l hp hi)⟩
    simp only [HRep]
    refine ⟨_, hm2, ?_⟩
    rw [g5]
    simp [hdr, Loc.at, Loc.room, hn]
end
end Go.HL
namespace Go.HL
theorem hif_T {b : Bool} {A B : Prop} (ha : A) (h : b = true := by first | rfl | assumption | omega | (simp only [gt_iff_lt, ge_iff_le, decide_eq_true_eq, decide_eq_false_iff_not, beq_iff_eq, bne_iff_ne, ne_eq, beq_eq_false_iff_ne, bne_eq_false_iff_eq, List.length_map, List.length_append, List.length_cons, List.length_nil, List.length_take, List.length_drop, Bool.not_eq_true', Bool.not_eq_false', Bool.not_eq_true, Bool.not_eq_false, Decidable.not_not, Nat.cast_ofNat, Int.natCast_add] <;> omega) | (simp <;> omega)) : hif b A B := hif_true h ha
theorem hif_F {b : Bool} {A B : Prop} (hb : B) (h : b = false := by first | rfl | assumption | omega | (simp only [gt_iff_lt, ge_iff_le, decide_eq_true_eq, decide_eq_false_iff_not, beq_iff_eq, bne_iff_ne, ne_eq, beq_eq_false_iff_ne, bne_eq_false_iff_eq, List.length_map, List.length_append, List.length_cons, List.length_nil, List.length_take, List.length_drop, Bool.not_eq_true', Bool.not_eq_false', Bool.not_eq_true, Bool.not_eq_false, Decidable.not_not, Nat.cast_ofNat, Int.natCast_add] <;> omega) | (simp <;> omega)) : hif b A B := hif_false h hb
theorem hwrap_F {z : Int} {K : Int → Prop} (hk : K z) (h1 : -9223372036854775808 ≤ z := by first | omega | (simp only [List.length_map, List.length_append, List.length_take, List.length_drop, List.length_cons, List.length_nil] <;> omega) | (simp <;> omega))
    (h2 : z ≤ 9223372036854775807 := by first | omega | (simp only [List.length_map, List.length_append, List.length_take, List.length_drop, List.length_cons, List.length_nil] <;> omega) | (simp <;> omega)) : hwrap .i64 z K := hwrap_fit (W_fit h1 h2) hk
theorem hobl_O {c k : Prop} (hk : k) (h : c := by first | omega | (simp only [List.length_map, List.length_append, List.length_take, List.length_drop, List.length_cons, List.length_nil] <;> omega) | (simp <;> omega)) : hobl c k := hobl_intro h hk
theorem hle_Q {s : HS} {n : Nat} {slots : List (Nat × HV)} {heap : List (Nat × HSlot)} (l : List (Nat × Option Nat))
    (h4 : slOK (lkN l) s slots := by repeat' (first | exact trivial | exact rfl | (refine ⟨⟨rfl, ?_⟩, ?_⟩) | (refine ⟨rfl, ?_⟩) | (simp; done) | (simp; rfl)))
    (h5 : hpOK (lkN l) s heap := by repeat' (first | exact trivial | exact rfl | exact .inl rfl | exact .inr rfl | (refine ⟨⟨rfl, .inl ⟨_, rfl, ?_⟩⟩, ?_⟩) | (refine ⟨⟨rfl, _, rfl, ?_⟩, ?_⟩) | (refine ⟨⟨rfl, .inr ⟨rfl, ?_⟩⟩, ?_⟩) | (refine ⟨rfl, ?_⟩) | (simp; done) | (simp; rfl)))
    (hn : n = s.n := by rfl) (hp : [] = s.pins := by rfl) (h1 : keysIn heap l = true := by rfl) (h2 : nodupB (tgtsA heap l) = true := by rfl) : HLe s (hs n slots heap) := hle_hs l hn hp h1 h2 h4 h5
theorem hle_P {s : HS} {pins : List Nat} {n : Nat} {slots : List (Nat × HV)} {heap : List (Nat × HSlot)} (l : List (Nat × Option Nat))
    (h4 : slOK (lkN l) s slots := by repeat' (first | exact trivial | exact rfl | (refine ⟨⟨rfl, ?_⟩, ?_⟩) | (refine ⟨rfl, ?_⟩) | (simp; done) | (simp; rfl)))
    (h5 : hpOK (lkN l) s heap := by repeat' (first | exact trivial | exact rfl | exact .inl rfl | exact .inr rfl | (refine ⟨⟨rfl, .inl ⟨_, rfl, ?_⟩⟩, ?_⟩) | (refine ⟨⟨rfl, _, rfl, ?_⟩, ?_⟩) | (refine ⟨⟨rfl, .inr ⟨rfl, ?_⟩⟩, ?_⟩) | (refine ⟨rfl, ?_⟩) | (simp; done) | (simp; rfl)))
    (hn : n = s.n := by rfl) (hp : pins = s.pins := by rfl) (h1 : keysIn heap l = true := by rfl) (h2 : nodupB (tgtsA heap l) = true := by rfl) (h3 : pinOK (lkN l) pins := by repeat' (first | exact trivial | (refine ⟨rfl, ?_⟩))) : HLe s (hsP pins n slots heap) := hle_of l hn hp h1 h2 h3 h4 h5
theorem hfin_P {pins : List Nat} {v r : HV} {H2 : Nat → HSlot} {heap : List (Nat × HSlot)} (l : List (Nat × Option Nat)) (h5 : rn (lkN l) r = v := by rfl)
    (h6 : hpOK (lkN l) (hinit [v] 1 H2 pins) heap := by repeat' (first | exact trivial | exact rfl | exact .inl rfl | exact .inr rfl | (refine ⟨⟨rfl, .inl ⟨_, rfl, ?_⟩⟩, ?_⟩) | (refine ⟨⟨rfl, _, rfl, ?_⟩, ?_⟩) | (refine ⟨⟨rfl, .inr ⟨rfl, ?_⟩⟩, ?_⟩) | (refine ⟨rfl, ?_⟩) | (simp; done) | (simp; rfl)))
    (h1 : keysIn heap l = true := by rfl) (h2 : nodupB (tgtsA heap l) = true := by rfl) (h3 : pinOK (lkN l) pins := by repeat' (first | exact trivial | (refine ⟨rfl, ?_⟩))) (h4 : rnOk (lkN l) r = true := by rfl) : HFin pins v H2 r (lk .free heap) := hfin_of l h1 h2 h3 h4 h5 h6
end Go.HL
