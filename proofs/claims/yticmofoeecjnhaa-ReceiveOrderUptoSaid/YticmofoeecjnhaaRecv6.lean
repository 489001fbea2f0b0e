/- The receiver: the document's answer. -/
import Derived.Test.YticmofoeecjnhaaRecv5
namespace Go.HL
open Go.Proofs
namespace Rcv
open Srt Jn Ser
set_option maxHeartbeats 4000000
set_option maxRecDepth 100000
set_option linter.unusedSimpArgs false
abbrev rints (l : List Int) : HV := .p (.sl 1 (l.map fun n => [pi n]))
abbrev arrs (l : List Arrival) : HV := .p (.sl 4 (l.map Arrival.row))
/-- a message is delivered, if it is whole; whole or not, it goes -/
def rdlv (r : Receiver) (s m : Int) (o any : Bool) : Receiver × Bool :=
  (if (dlv r s m o).2 then (dlv r s m o).1 else if any then dropR r s m o else r, (dlv r s m o).2)
theorem rdlv_false (r : Receiver) (s m : Int) (o : Bool) : rdlv r s m o false = dlv r s m o := by
  unfold rdlv dlv
  split <;> rfl
theorem spec_rdeliver (r : Receiver) (c : Chunk) (any : Bool) (h2 : r.pieces.length < 2 ^ 22) (h3 : tot r.pieces < 2 ^ 22) (h4 : r.log.length < 2 ^ 38) :
    FunOK Try.prog 46 [r.hv, c.hv, hbool any] noHeap (.tup [(rdlv r c.stream c.mid c.ordered any).1.hv, hbool (rdlv r c.stream c.mid c.ordered any).2]) noHeap := by
  refine funOK_pure mixed Try.func46 (by decide) ?_
  have hf := List.length_filter_le (mine c.stream c.mid c.ordered) r.pieces
  have ht := tot_filter (mine c.stream c.mid c.ordered) r.pieces
  conv => whnf
  ((refine hcall_pure ?_; (conv => whnf); refine ⟨_, spec_apart r.pieces c (by omega), rfl, ?_⟩; conv => whnf); try (refine hcut.go ?_; conv => whnf))
  have ps := spec_rjoin (r.pieces.filter (mine c.stream c.mid c.ordered)) (by omega) (by omega)
  cases hj : join (r.pieces.filter (mine c.stream c.mid c.ordered)) with
  | none =>
    rw [hj] at ps
    have hd : dlv r c.stream c.mid c.ordered = (r, false) := by rw [dlv, hj]
    ((refine hcall_own [(0, 910)]  ?_; (conv => whnf); refine ⟨_, _,  ps, ⟨⟨⟨rfl, rfl⟩, trivial⟩, rfl, rfl, rfl⟩, ?_⟩; conv => whnf); try (refine hcut.go ?_; conv => whnf))
    cases any with
    | false =>
      conv => whnf
      try (refine hcut.go ?_; conv => whnf)
      rw [rdlv, hd]; rfl
    | true =>
      conv => whnf
      try (refine hcut.go ?_; conv => whnf)
      rw [rdlv, hd]; rfl
  | some b =>
    rw [hj] at ps
    have hd : dlv r c.stream c.mid c.ordered = ({ dropR r c.stream c.mid c.ordered with log := r.log ++ [⟨c.stream, c.mid, c.ordered, b⟩] }, true) := by rw [dlv, hj]
    ((refine hcall_own [(0, 910)]  ?_; (conv => whnf); refine ⟨_, _,  ps, ⟨⟨⟨rfl, rfl⟩, trivial⟩, rfl, rfl, rfl⟩, ?_⟩; conv => whnf); try (refine hcut.go ?_; conv => whnf))
    refine hobl_intro (c := (([] : List (List PV)).length + (r.log.map Arrival.row).length) * 48 ≤ 140737488355328) (by simp; omega) ?_; conv => whnf
    try (refine hcut.go ?_; conv => whnf)
    refine hobl_intro (c := (([] ++ r.log.map Arrival.row).length + 1) * 48 ≤ 140737488355328) (by simp; omega) ?_; conv => whnf
    ((refine hdraw_intro ?_ ?_; (· kernel_rfl); conv => whnf); try (refine hcut.go ?_; conv => whnf))
    rw [rdlv, hd]
    have hl : r.log.map Arrival.row ++ [Arrival.row ⟨c.stream, c.mid, c.ordered, b⟩] = (r.log ++ [(⟨c.stream, c.mid, c.ordered, b⟩ : Arrival)]).map Arrival.row := by simp
    exact congrArg (fun l => HV.tup [.agg (rcvC r (spans r.spans) (pieces (r.pieces.filter fun p => !mine c.stream c.mid c.ordered p)) (rints r.turn) (.p (.sl 4 l))), hbool true]) hl
theorem dlv_no {r : Receiver} {s m : Int} {o : Bool} (h : (dlv r s m o).2 = false) : (dlv r s m o).1 = r := by
  unfold dlv at h ⊢
  split
  · rfl
  · rename_i b hj; rw [hj] at h; cases h
theorem spec_rdlv (r : Receiver) (s m : Int) (h2 : r.pieces.length < 2 ^ 22) (h3 : tot r.pieces < 2 ^ 22) (h4 : r.log.length < 2 ^ 38) :
    FunOK Try.prog 46 [r.hv, (Chunk.mk 0 0 s m 0 false true [] [] 0 []).hv, hbool false] noHeap (.tup [(dlv r s m true).1.hv, hbool (dlv r s m true).2]) noHeap := by
  have h := spec_rdeliver r (Chunk.mk 0 0 s m 0 false true [] [] 0 []) false h2 h3 h4
  rwa [rdlv_false] at h
theorem spec_rturns (r : Receiver) (k : Nat) (hf : TFit r k) (ht9 : r.turn.length < 2 ^ 30) : FunOK Try.prog 45 [r.hv, i64 k] noHeap (turns r k).hv noHeap := by
  generalize hT : turns r k = T
  refine funOK_pure mixed Try.func45 (by decide) ?_
  conv => whnf
  refine ⟨{ x : Bool × Receiver // TFit x.2 k ∧ turns x.2 k = T ∧ x.2.turn.length < 2 ^ 30 }, fun
    | ⟨(false, x), _⟩ => hs 36 [(1, i64 k), (2, .ptr 2 0), (4, .ptr 4 0)] [(2, .live (.cells 35 (rcvC x (spans x.spans) (pieces x.pieces) (rints x.turn) (arrs x.log)))), (4, .live (.cells 35 zeroR))]
    | ⟨(true, x), _⟩ => hs 36 [(1, i64 k), (2, .ptr 2 0), (4, .ptr 4 0)] [(2, .live (.cells 35 (rcvC x (spans x.spans) (pieces x.pieces) (.own 900) (arrs x.log)))), (4, .live (.cells 35 zeroR)), (900, rowT x.turn)], fun x => x.1.2.pieces.length, ⟨(false, r), hf, hT, ht9⟩, ?_, ?_⟩
  · exact (hle_hs [(2, some 2), (4, some 4)] rfl rfl rfl rfl (by repeat' (first | exact trivial | exact rfl | (refine ⟨⟨rfl, ?_⟩, ?_⟩) | (refine ⟨rfl, ?_⟩) | (simp; done) | (simp; rfl))) (by repeat' (first | exact trivial | exact rfl | exact .inl rfl | exact .inr rfl | (refine ⟨⟨rfl, .inl ⟨_, rfl, ?_⟩⟩, ?_⟩) | (refine ⟨⟨rfl, _, rfl, ?_⟩, ?_⟩) | (refine ⟨⟨rfl, .inr ⟨rfl, ?_⟩⟩, ?_⟩) | (refine ⟨rfl, ?_⟩) | (simp; done) | (simp; rfl))))
  rintro ⟨⟨b, x⟩, ⟨h1, h2, h3, h4, h5, h6⟩, he, h9⟩
  dsimp only at h1 h2 h3 h4 h5 h6 he h9
  have hg : x.turn[k]?.getD 0 = x.turn[k] := by simp [h4]
  have hstep := turns_step x k
  rw [he, hg] at hstep
  rw [hg] at h5 h6
  obtain ⟨k1, k2, k3, k4, k5, k6, k7⟩ := dlv_keeps x k (tag x.turn[k]) true
  have hless : (dlv x k (tag x.turn[k]) true).2 = true → (dlv x k (tag x.turn[k]) true).1.pieces.length < x.pieces.length := fun h => dlv_less h
  have hno : (dlv x k (tag x.turn[k]) true).2 = false → (dlv x k (tag x.turn[k]) true).1 = x := fun h => dlv_no h
  have ps := spec_rdlv x k (tag x.turn[k]) (by omega) (by omega) (by omega)
  generalize hD : dlv x k (tag x.turn[k]) true = D at *
  obtain ⟨y, ok⟩ := D
  dsimp only at k1 k2 k3 k4 k5 k6 k7 hless hstep hno ps
  have h4' : k < y.turn.length := by rw [k1]; exact h4
  have hyk : y.turn[k] = x.turn[k] := by simp only [k1]
  cases b with
  | false =>
    conv => whnf
    try ((refine hobl_intro ?_ ?_; (· (first | omega | (simp only [List.length_map, List.length_append, List.length_take, List.length_drop, List.length_cons, List.length_nil] <;> omega) | (simp <;> omega))); conv => whnf); try (refine hcut.go ?_; conv => whnf))
    refine hrow_at k rfl h4 ?_; conv => whnf
    ((refine hcall_lend ?_; (conv => whnf); refine ⟨_, spec_rtag _, rfl, ?_⟩; conv => whnf); try (refine hcut.go ?_; conv => whnf))
    ((refine hcall_pure ?_; (conv => whnf); refine ⟨_, ps, rfl, ?_⟩; conv => whnf); try (refine hcut.go ?_; conv => whnf))
    ((refine hdraw_intro ?_ ?_; (· kernel_rfl); conv => whnf); try (refine hcut.go ?_; conv => whnf))
    cases ok with
    | false =>
      have hstep : T = y := hstep
      rw [hno rfl] at hstep
      subst hstep
      conv => whnf
      try (refine hcut.go ?_; conv => whnf)
      try rfl
    | true =>
      have hless := hless rfl
      conv => whnf
      try (refine hcut.go ?_; conv => whnf)
      refine hobl_intro (c := (([] : List (List PV)).length + (y.turn.map fun n => [pi n]).length) * 8 ≤ 140737488355328) (by rw [List.length_map, k1]; simp; omega) ?_; conv => whnf
      ((refine hobl_intro ?_ ?_; (· (first | omega | (simp only [List.length_map, List.length_append, List.length_take, List.length_drop, List.length_cons, List.length_nil] <;> omega) | (simp <;> omega))); conv => whnf); try (refine hcut.go ?_; conv => whnf))
      refine hrow_at k rfl h4' ?_; conv => whnf
      rw [hyk]
      ((refine hwrap_fit (W_fit ?_ ?_) ?_; (· (first | omega | (simp only [List.length_map, List.length_append, List.length_take, List.length_drop, List.length_cons, List.length_nil] <;> omega) | (simp <;> omega))); (· (first | omega | (simp only [List.length_map, List.length_append, List.length_take, List.length_drop, List.length_cons, List.length_nil] <;> omega) | (simp <;> omega))); conv => whnf); try (refine hcut.go ?_; conv => whnf))
      ((refine hobl_intro ?_ ?_; (· (first | omega | (simp only [List.length_map, List.length_append, List.length_take, List.length_drop, List.length_cons, List.length_nil] <;> omega) | (simp <;> omega))); conv => whnf); try (refine hcut.go ?_; conv => whnf))
      refine hrow_at k rfl h4' ?_; conv => whnf
      have hb : (bump y k).turn[k]?.getD 0 = x.turn[k] + 1 := by
        show (y.turn.set k (y.turn[k]?.getD 0 + 1))[k]?.getD 0 = _
        rw [List.getElem?_set_self h4', List.getElem?_eq_getElem h4', hyk]; rfl
      refine ⟨⟨(true, bump y k), ⟨by show y.pieces.length < _; omega, by show tot y.pieces < _; omega, by show y.log.length + y.pieces.length < _; omega, by show k < (y.turn.set k _).length; rw [List.length_set]; exact h4', by rw [hb]; omega, by rw [hb]; show _ + (y.pieces.length : Int) < _; omega⟩, by rw [hstep]; rfl, by show (y.turn.set k _).length < _; rw [List.length_set, k1]; exact h9⟩, (hle_hs [(2, some 2), (4, some 4), (900, some 26)] rfl rfl rfl rfl (by repeat' (first | exact trivial | exact rfl | (refine ⟨⟨rfl, ?_⟩, ?_⟩) | (refine ⟨rfl, ?_⟩) | ((refine row_eqs ?_; show _ = (y.turn.set k (y.turn[k]?.getD 0 + 1)).map _; rw [List.map_set, List.getElem?_eq_getElem h4', hyk]; rfl)) | (simp; done) | (simp; rfl))) (by repeat' (first | exact trivial | exact rfl | exact .inl rfl | exact .inr rfl | (refine ⟨⟨rfl, .inl ⟨_, rfl, ?_⟩⟩, ?_⟩) | (refine ⟨⟨rfl, _, rfl, ?_⟩, ?_⟩) | (refine ⟨⟨rfl, .inr ⟨rfl, ?_⟩⟩, ?_⟩) | (refine ⟨rfl, ?_⟩) | ((refine row_eqs ?_; show _ = (y.turn.set k (y.turn[k]?.getD 0 + 1)).map _; rw [List.map_set, List.getElem?_eq_getElem h4', hyk]; rfl)) | (simp; done) | (simp; rfl)))), by show y.pieces.length < x.pieces.length; omega⟩
  | true =>
    conv => whnf
    try ((refine hobl_intro ?_ ?_; (· (first | omega | (simp only [List.length_map, List.length_append, List.length_take, List.length_drop, List.length_cons, List.length_nil] <;> omega) | (simp <;> omega))); conv => whnf); try (refine hcut.go ?_; conv => whnf))
    refine hrow_at k rfl h4 ?_; conv => whnf
    ((refine hcall_lend ?_; (conv => whnf); refine ⟨_, spec_rtag _, rfl, ?_⟩; conv => whnf); try (refine hcut.go ?_; conv => whnf))
    ((refine hcall_pure ?_; (conv => whnf); refine ⟨_, ps, rfl, ?_⟩; conv => whnf); try (refine hcut.go ?_; conv => whnf))
    ((refine hdraw_intro ?_ ?_; (· kernel_rfl); conv => whnf); try (refine hcut.go ?_; conv => whnf))
    cases ok with
    | false =>
      have hstep : T = y := hstep
      rw [hno rfl] at hstep
      subst hstep
      conv => whnf
      try (refine hcut.go ?_; conv => whnf)
      try rfl
    | true =>
      have hless := hless rfl
      conv => whnf
      try (refine hcut.go ?_; conv => whnf)
      refine hobl_intro (c := (([] : List (List PV)).length + (y.turn.map fun n => [pi n]).length) * 8 ≤ 140737488355328) (by rw [List.length_map, k1]; simp; omega) ?_; conv => whnf
      ((refine hobl_intro ?_ ?_; (· (first | omega | (simp only [List.length_map, List.length_append, List.length_take, List.length_drop, List.length_cons, List.length_nil] <;> omega) | (simp <;> omega))); conv => whnf); try (refine hcut.go ?_; conv => whnf))
      refine hrow_at k rfl h4' ?_; conv => whnf
      rw [hyk]
      ((refine hwrap_fit (W_fit ?_ ?_) ?_; (· (first | omega | (simp only [List.length_map, List.length_append, List.length_take, List.length_drop, List.length_cons, List.length_nil] <;> omega) | (simp <;> omega))); (· (first | omega | (simp only [List.length_map, List.length_append, List.length_take, List.length_drop, List.length_cons, List.length_nil] <;> omega) | (simp <;> omega))); conv => whnf); try (refine hcut.go ?_; conv => whnf))
      ((refine hobl_intro ?_ ?_; (· (first | omega | (simp only [List.length_map, List.length_append, List.length_take, List.length_drop, List.length_cons, List.length_nil] <;> omega) | (simp <;> omega))); conv => whnf); try (refine hcut.go ?_; conv => whnf))
      refine hrow_at k rfl h4' ?_; conv => whnf
      have hb : (bump y k).turn[k]?.getD 0 = x.turn[k] + 1 := by
        show (y.turn.set k (y.turn[k]?.getD 0 + 1))[k]?.getD 0 = _
        rw [List.getElem?_set_self h4', List.getElem?_eq_getElem h4', hyk]; rfl
      refine ⟨⟨(true, bump y k), ⟨by show y.pieces.length < _; omega, by show tot y.pieces < _; omega, by show y.log.length + y.pieces.length < _; omega, by show k < (y.turn.set k _).length; rw [List.length_set]; exact h4', by rw [hb]; omega, by rw [hb]; show _ + (y.pieces.length : Int) < _; omega⟩, by rw [hstep]; rfl, by show (y.turn.set k _).length < _; rw [List.length_set, k1]; exact h9⟩, (hle_hs [(2, some 2), (4, some 4), (900, some 26)] rfl rfl rfl rfl (by repeat' (first | exact trivial | exact rfl | (refine ⟨⟨rfl, ?_⟩, ?_⟩) | (refine ⟨rfl, ?_⟩) | ((refine row_eqs ?_; show _ = (y.turn.set k (y.turn[k]?.getD 0 + 1)).map _; rw [List.map_set, List.getElem?_eq_getElem h4', hyk]; rfl)) | (simp; done) | (simp; rfl))) (by repeat' (first | exact trivial | exact rfl | exact .inl rfl | exact .inr rfl | (refine ⟨⟨rfl, .inl ⟨_, rfl, ?_⟩⟩, ?_⟩) | (refine ⟨⟨rfl, _, rfl, ?_⟩, ?_⟩) | (refine ⟨⟨rfl, .inr ⟨rfl, ?_⟩⟩, ?_⟩) | (refine ⟨rfl, ?_⟩) | ((refine row_eqs ?_; show _ = (y.turn.set k (y.turn[k]?.getD 0 + 1)).map _; rw [List.map_set, List.getElem?_eq_getElem h4', hyk]; rfl)) | (simp; done) | (simp; rfl)))), by show y.pieces.length < x.pieces.length; omega⟩
end Rcv
end Go.HL
