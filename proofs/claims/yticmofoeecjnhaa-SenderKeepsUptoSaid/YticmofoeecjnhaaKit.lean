/- Small lemmas for walks over lists: what stands ahead, and what stands behind. -/
import Derived.Test.YticmofoeecjnhaaTypes
namespace Go.HL
theorem hsub_eq {rows : List (List PV)} {o n o' n' : Nat} {K : List (List PV) → Prop} (ho : o = o') (hn : n = n') (h : hsub rows o' n' K) : hsub rows o n K := by subst ho; subst hn; exact h
theorem hwrap_to {k : IntKind} {z z' : Int} {K : Int → Prop} (h : k.wrap z = z') (hk : K z') : hwrap k z K := ⟨z', h.symm, hk⟩
theorem hwrap_W {z : Int} {K : Int → Prop} (h : K (W z)) : hwrap .i64 z K := ⟨_, rfl, h⟩
theorem row_snoc {α : Type} {t n : Nat} {f : α → List PV} {a b : List α} {x : α} (h : a ++ [x] = b) : HSlot.live (.row t n (b.map f)) = HSlot.live (.row t n (a.map f ++ [f x])) := by
  rw [← h, List.map_append]; rfl
theorem row_app {α : Type} {t n : Nat} {f : α → List PV} {a b : List α} {x : α} {r : List PV} (h : b = a ++ [x]) (hr : f x = r) : HSlot.live (.row t n (a.map f ++ [r])) = HSlot.live (.row t n (b.map f)) := by
  rw [h, List.map_append, ← hr]; rfl
theorem hrow_mid {α : Type} {f : α → List PV} {l a b : List α} {s : α} {z : Int} {K : List PV → Prop} (h : l = a ++ s :: b) (hz : z = a.length) (hk : K (f s)) : hrow (l.map f) z K := by
  subst h
  exact ⟨_, by omega, by rw [hz, Int.toNat_natCast, List.getElem?_map, List.getElem?_append_right (Nat.le_refl _)]; simp, hk⟩
theorem row_set {α : Type} {t n : Nat} {f : α → List PV} {a b : List α} {x y : α} {k : Nat} {r : List PV} (hk : k = a.length) (hr : f y = r) :
    HSlot.live (.row t n ((a ++ y :: b).map f)) = HSlot.live (.row t n (((a ++ x :: b).map f).set k r)) := by
  subst hk; subst hr
  have : ((a ++ x :: b).map f).set a.length (f y) = (a ++ y :: b).map f := by
    induction a with
    | nil => rfl
    | cons z a ih => simp only [List.cons_append, List.map_cons, List.length_cons, List.set_cons_succ]; rw [ih]
  rw [this]
theorem hrow_set {rows : List (List PV)} {k : Nat} {r : List PV} {z : Int} {K : List PV → Prop} (hz : z = k) (h : k < rows.length) (hk : K r) : hrow (rows.set k r) z K :=
  ⟨r, by omega, by rw [hz, Int.toNat_natCast, List.getElem?_set_self h], hk⟩
theorem row_set2 {α : Type} {t n : Nat} {f : α → List PV} {a b : List α} {x y : α} {k : Nat} {r r' : List PV} (hk : k = a.length) (hr : f y = r) :
    HSlot.live (.row t n ((a ++ y :: b).map f)) = HSlot.live (.row t n ((((a ++ x :: b).map f).set k r').set k r)) := by
  rw [List.set_set]; exact row_set hk hr
theorem zip_nil {α : Type} {l a : List α} (h : l = a ++ []) : l.length = a.length := by rw [h]; simp
theorem zip_cons {α : Type} {l a b : List α} {s : α} (h : l = a ++ s :: b) : l.length = a.length + b.length + 1 := by rw [h]; simp; omega
theorem zip_next {α : Type} {l a b : List α} {s : α} (h : l = a ++ s :: b) : l = (a ++ [s]) ++ b := by rw [h]; simp
theorem zip_mem {α : Type} {l a b : List α} {s : α} (h : l = a ++ s :: b) : s ∈ l := by rw [h]; simp
theorem len_bulk {α : Type} {f : α → List PV} (hf : ∀ x, 1 ≤ bulkL (f x)) (l : List α) : l.length ≤ bulkR (l.map f) := by
  have := bulkR_ge (rows := l.map f) (fun r hr => by obtain ⟨p, _, rfl⟩ := List.mem_map.1 hr; exact hf p)
  rwa [List.length_map] at this
theorem mem_bulk {α : Type} {f : α → List PV} : ∀ {l : List α} {x : α}, x ∈ l → bulkL (f x) ≤ bulkR (l.map f)
  | y :: l, x, h => by
    simp only [List.map_cons, bulkR]
    rcases List.mem_cons.1 h with rfl | h
    · omega
    · have := mem_bulk (f := f) h; omega
theorem row_eqs {t n : Nat} {a b : List (List PV)} (h : a = b) : HSlot.live (.row t n a) = HSlot.live (.row t n b) := by rw [h]
theorem i64_eq {a b : Int} (h : a = b) : i64 a = i64 b := by rw [h]
theorem funOK_freeze {P : Program} {f : FuncId} {fn : Func} (hf : P.funcs[f]? = some fn) {args : List HV} {r r' : HV} {L : List (Nat × HSlot)} (h : FunOK P f args noHeap r (lk .free L))
    (hk : pureK (lk .free L) r fun y _ => forceD (normRes P fn.resultTypes.toList y) fun y => y = r') : FunOK P f args noHeap r' noHeap := by
  intro Γ m w vals hok hargs h0
  obtain ⟨h1, h2⟩ := h Γ m w vals hok hargs h0
  refine ⟨h1, h2.mono fun e w' he => ?_⟩
  obtain ⟨v, m', rfl, hok', hv, hp⟩ := he
  obtain ⟨y, us, hy, hview⟩ := pureK_view _ hk
  rw [forceD_eq] at hy
  subst hy
  have hws := WS.frz hok' hview.frz
  have hy := hview.rep m' w' _ v (WS.kept hview.frz hws.ok) (hws.rep hv)
  have hRn : ∀ b, RR Γ m' (updL (lk .free L) us) w' b → RR Γ (fun _ => none) noHeap w' b := fun b hb => ⟨hb.1, hb.2.1, noOwned⟩
  refine ⟨v, fun _ => none, rfl, ⟨hok'.size, hok'.os, hok'.tape, hok'.output, hok'.frame, fun _ _ => rfl, (fun id b hb => by cases hb), (fun id b hb => by cases hb), (fun id id' b b' l l' hb => by cases hb), hok'.dom⟩, ?_, fun id l _ hl => ?_⟩
  · refine HRep.normRes _ ?_
    refine rn_rep (σ := noIds) (m := m') (R := RR Γ m' (updL (lk .free L) us) w') (fun i j hj => by cases hj) (fun i hj => by cases hj) hRn _ v hview.noid ?_
    rw [rn_none _ hview.noid]
    exact hy
  · rw [hok.free id rfl] at hl; cases hl
theorem hwp_gen {X : HS → (HX → HS → Prop) → Prop} {s : HS} {Q : HX → HS → Prop} (h : ∀ Q' : HX → HS → Prop, (∀ e s', Q e s' → Q' e s') → X s Q') : X s Q := h Q fun _ _ h => h
end Go.HL
