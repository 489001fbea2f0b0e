/- The sender: a message's number in its stream. -/
import Derived.Test.YticmofoeecjnhaaSndD
namespace Go.HL
open Go.Proofs
namespace Snd
open Ser
set_option maxHeartbeats 4000000
set_option maxRecDepth 100000
set_option linter.unusedSimpArgs false
def midS (s : Sender) (k : Nat) (m : Queued) : Sender := { s with queue := s.queue.set k { m with mid := midOf s m }, mids := midsOf s m }
structure MFit (s : Sender) (m : Queued) : Prop where
  lo : 0 ≤ m.message.stream
  hi : m.message.stream < 2 ^ 40
  lo2 : 0 ≤ s.config.streams
  hi2 : s.config.streams < 2 ^ 40
  at_ : m.mid < 0 → midAt s m < s.mids.length
theorem set_self {α : Type} {l : List α} {k : Nat} {x : α} (h : l[k]? = some x) : l.set k x = l := by
  obtain ⟨hk, rfl⟩ := List.getElem?_eq_some_iff.1 h
  exact List.set_getElem_self hk
theorem mid_queue {s : Sender} {k : Nat} {m : Queued} (hk : s.queue[k]? = some m) (h : midOf s m = m.mid) : (midS s k m).queue = s.queue := by
  show s.queue.set k { m with mid := midOf s m } = _
  rw [h]; exact set_self hk
theorem mid_row {s : Sender} {k : Nat} {m : Queued} {v : Int} {t : TypeId} (h : midOf s m = v) : HSlot.live (.row t 10 ((s.queue.map Queued.row).set k ({ m with mid := v } : Queued).row)) = HSlot.live (.row t 10 ((midS s k m).queue.map Queued.row)) := by
  rw [← h]; exact set_row rfl
theorem spec_mid1 (s : Sender) (a : List Chunk) (k : Nat) (m : Queued) (hk : s.queue[k]? = some m) (hf : MFit s m) :
    FunOK Try.prog 92 [.ptr 1000000 0, .eptr 1000001 10 k 0] (lk .free (pH1 s a)) (i64 (midOf s m)) (lk .free (pH1 (midS s k m) a)) := by
  obtain ⟨f1, f2, f3, f4, f5⟩ := hf
  have hk' : k < s.queue.length := (List.getElem?_eq_some_iff.1 hk).1
  refine funOK_of mixed Try.func92 (by decide) [1000000, 1000001, 1000002, 1000003, 1000004, 1000005, 1000006, 1000007, 1000008] lk_pins ?_
  conv => whnf
  refine hcut.go ?_; conv => whnf
  refine hrow_q hk rfl ?_; conv => whnf
  by_cases c1 : m.mid < 0
  · have f5 := f5 c1
    obtain ⟨v, hv⟩ : ∃ v, s.mids[midAt s m]? = some v := ⟨_, List.getElem?_eq_getElem f5⟩
    have hmo : midOf s m = v := by rw [midOf, if_pos c1, hv]; rfl
    have hms : midsOf s m = s.mids.set (midAt s m) (W (v + 1)) := by rw [midsOf, if_pos c1, setAt, hv]
    ((refine hif_T ?_; conv => whnf); try (refine hcut.go ?_; conv => whnf))
    refine hrow_q hk rfl ?_; conv => whnf
    repeat (refine hcut.go ?_; conv => whnf)
    refine hrow_q hk rfl ?_; conv => whnf
    repeat (refine hcut.go ?_; conv => whnf)
    cases c2 : m.message.ordered with
    | true =>
      have hat : midAt s m = m.message.stream.toNat := by rw [midAt, c2]; simp
      conv => whnf
      repeat (refine hcut.go ?_; conv => whnf)
      refine hobl_intro (by simp; omega) ?_; conv => whnf
      refine hrow_q hv (by omega) ?_; conv => whnf
      refine hrow_q hk rfl ?_; conv => whnf
      refine hobl_intro (by simp; omega) ?_; conv => whnf
      refine hrow_q hv (by omega) ?_; conv => whnf
      ((first | refine hwrap_W ?_ | refine hwrap_raw ?_); (conv => whnf); try (refine hcut.go ?_; conv => whnf))
      refine hobl_intro (by simp; omega) ?_; conv => whnf
      refine hrow_q hv (by omega) ?_; conv => whnf
      repeat (refine hcut.go ?_; conv => whnf)
      refine hrow_set rfl (by simp; omega) ?_; conv => whnf
      have hms2 : (midS s k m).mids = _ := hms
      rw [hat] at hms2
      (exact hfin_P [(1000000, some 1000000), (1000001, some 1000001), (1000002, some 1000002), (1000003, some 1000003), (1000004, some 1000004), (1000005, some 1000005), (1000006, some 1000006), (1000007, some 1000007), (1000008, some 1000008)] (by first | rfl | ((rw [hmo]; rfl)) | ((exact mid_row hmo)) | ((exact (set_row rfl).trans (row_eqs (by rw [hms2])))) ) (by repeat' (first | exact trivial | exact rfl | exact .inl rfl | exact .inr rfl | (refine ⟨⟨rfl, .inl ⟨_, rfl, ?_⟩⟩, ?_⟩) | (refine ⟨⟨rfl, _, rfl, ?_⟩, ?_⟩) | (refine ⟨⟨rfl, .inr ⟨rfl, ?_⟩⟩, ?_⟩) | (refine ⟨rfl, ?_⟩) | ((rw [hmo]; rfl)) | ((exact mid_row hmo)) | ((exact (set_row rfl).trans (row_eqs (by rw [hms2])))) | (simp; done) | (simp; rfl))))
    | false =>
      have hat : midAt s m = (m.message.stream + s.config.streams).toNat := by rw [midAt, c2]; simp
      conv => whnf
      repeat (refine hcut.go ?_; conv => whnf)
      ((refine hwrap_F ?_; conv => whnf); try (refine hcut.go ?_; conv => whnf))
      refine hobl_intro (by simp; omega) ?_; conv => whnf
      refine hrow_q hv (by omega) ?_; conv => whnf
      refine hrow_q hk rfl ?_; conv => whnf
      refine hobl_intro (by simp; omega) ?_; conv => whnf
      refine hrow_q hv (by omega) ?_; conv => whnf
      ((first | refine hwrap_W ?_ | refine hwrap_raw ?_); (conv => whnf); try (refine hcut.go ?_; conv => whnf))
      refine hobl_intro (by simp; omega) ?_; conv => whnf
      refine hrow_q hv (by omega) ?_; conv => whnf
      repeat (refine hcut.go ?_; conv => whnf)
      refine hrow_set rfl (by simp; omega) ?_; conv => whnf
      have hms2 : (midS s k m).mids = _ := hms
      rw [hat] at hms2
      (exact hfin_P [(1000000, some 1000000), (1000001, some 1000001), (1000002, some 1000002), (1000003, some 1000003), (1000004, some 1000004), (1000005, some 1000005), (1000006, some 1000006), (1000007, some 1000007), (1000008, some 1000008)] (by first | rfl | ((rw [hmo]; rfl)) | ((exact mid_row hmo)) | ((exact (set_row rfl).trans (row_eqs (by rw [hms2])))) ) (by repeat' (first | exact trivial | exact rfl | exact .inl rfl | exact .inr rfl | (refine ⟨⟨rfl, .inl ⟨_, rfl, ?_⟩⟩, ?_⟩) | (refine ⟨⟨rfl, _, rfl, ?_⟩, ?_⟩) | (refine ⟨⟨rfl, .inr ⟨rfl, ?_⟩⟩, ?_⟩) | (refine ⟨rfl, ?_⟩) | ((rw [hmo]; rfl)) | ((exact mid_row hmo)) | ((exact (set_row rfl).trans (row_eqs (by rw [hms2])))) | (simp; done) | (simp; rfl))))
  · ((refine hif_F ?_; conv => whnf); try (refine hcut.go ?_; conv => whnf))
    repeat (refine hcut.go ?_; conv => whnf)
    refine hrow_q hk rfl ?_; conv => whnf
    have hmo : midOf s m = m.mid := by rw [midOf, if_neg c1]
    have hms : midsOf s m = s.mids := by rw [midsOf, if_neg c1]
    (exact hfin_P [(1000000, some 1000000), (1000001, some 1000001), (1000002, some 1000002), (1000003, some 1000003), (1000004, some 1000004), (1000005, some 1000005), (1000006, some 1000006), (1000007, some 1000007), (1000008, some 1000008)] (by first | rfl | ((rw [hmo]; rfl)) | ((exact row_eqs (by rw [mid_queue hk hmo]))) | ((exact row_eqs (by rw [show (midS s k m).mids = s.mids from hms]))) ) (by repeat' (first | exact trivial | exact rfl | exact .inl rfl | exact .inr rfl | (refine ⟨⟨rfl, .inl ⟨_, rfl, ?_⟩⟩, ?_⟩) | (refine ⟨⟨rfl, _, rfl, ?_⟩, ?_⟩) | (refine ⟨⟨rfl, .inr ⟨rfl, ?_⟩⟩, ?_⟩) | (refine ⟨rfl, ?_⟩) | ((rw [hmo]; rfl)) | ((exact row_eqs (by rw [mid_queue hk hmo]))) | ((exact row_eqs (by rw [show (midS s k m).mids = s.mids from hms]))) | (simp; done) | (simp; rfl))))
theorem spec_mid2 (s : Sender) (a b : List Chunk) (k : Nat) (m : Queued) (hk : s.queue[k]? = some m) (hf : MFit s m) :
    FunOK Try.prog 92 [.ptr 1000000 0, .eptr 1000001 10 k 0] (lk .free (pH2 s a b)) (i64 (midOf s m)) (lk .free (pH2 (midS s k m) a b)) := by
  obtain ⟨f1, f2, f3, f4, f5⟩ := hf
  have hk' : k < s.queue.length := (List.getElem?_eq_some_iff.1 hk).1
  refine funOK_of mixed Try.func92 (by decide) [1000000, 1000001, 1000002, 1000003, 1000004, 1000005, 1000006, 1000007, 1000008, 1000009] lk_pins ?_
  conv => whnf
  refine hcut.go ?_; conv => whnf
  refine hrow_q hk rfl ?_; conv => whnf
  by_cases c1 : m.mid < 0
  · have f5 := f5 c1
    obtain ⟨v, hv⟩ : ∃ v, s.mids[midAt s m]? = some v := ⟨_, List.getElem?_eq_getElem f5⟩
    have hmo : midOf s m = v := by rw [midOf, if_pos c1, hv]; rfl
    have hms : midsOf s m = s.mids.set (midAt s m) (W (v + 1)) := by rw [midsOf, if_pos c1, setAt, hv]
    ((refine hif_T ?_; conv => whnf); try (refine hcut.go ?_; conv => whnf))
    refine hrow_q hk rfl ?_; conv => whnf
    repeat (refine hcut.go ?_; conv => whnf)
    refine hrow_q hk rfl ?_; conv => whnf
    repeat (refine hcut.go ?_; conv => whnf)
    cases c2 : m.message.ordered with
    | true =>
      have hat : midAt s m = m.message.stream.toNat := by rw [midAt, c2]; simp
      conv => whnf
      repeat (refine hcut.go ?_; conv => whnf)
      refine hobl_intro (by simp; omega) ?_; conv => whnf
      refine hrow_q hv (by omega) ?_; conv => whnf
      refine hrow_q hk rfl ?_; conv => whnf
      refine hobl_intro (by simp; omega) ?_; conv => whnf
      refine hrow_q hv (by omega) ?_; conv => whnf
      ((first | refine hwrap_W ?_ | refine hwrap_raw ?_); (conv => whnf); try (refine hcut.go ?_; conv => whnf))
      refine hobl_intro (by simp; omega) ?_; conv => whnf
      refine hrow_q hv (by omega) ?_; conv => whnf
      repeat (refine hcut.go ?_; conv => whnf)
      refine hrow_set rfl (by simp; omega) ?_; conv => whnf
      have hms2 : (midS s k m).mids = _ := hms
      rw [hat] at hms2
      (exact hfin_P [(1000000, some 1000000), (1000001, some 1000001), (1000002, some 1000002), (1000003, some 1000003), (1000004, some 1000004), (1000005, some 1000005), (1000006, some 1000006), (1000007, some 1000007), (1000008, some 1000008), (1000009, some 1000009)] (by first | rfl | ((rw [hmo]; rfl)) | ((exact mid_row hmo)) | ((exact (set_row rfl).trans (row_eqs (by rw [hms2])))) ) (by repeat' (first | exact trivial | exact rfl | exact .inl rfl | exact .inr rfl | (refine ⟨⟨rfl, .inl ⟨_, rfl, ?_⟩⟩, ?_⟩) | (refine ⟨⟨rfl, _, rfl, ?_⟩, ?_⟩) | (refine ⟨⟨rfl, .inr ⟨rfl, ?_⟩⟩, ?_⟩) | (refine ⟨rfl, ?_⟩) | ((rw [hmo]; rfl)) | ((exact mid_row hmo)) | ((exact (set_row rfl).trans (row_eqs (by rw [hms2])))) | (simp; done) | (simp; rfl))))
    | false =>
      have hat : midAt s m = (m.message.stream + s.config.streams).toNat := by rw [midAt, c2]; simp
      conv => whnf
      repeat (refine hcut.go ?_; conv => whnf)
      ((refine hwrap_F ?_; conv => whnf); try (refine hcut.go ?_; conv => whnf))
      refine hobl_intro (by simp; omega) ?_; conv => whnf
      refine hrow_q hv (by omega) ?_; conv => whnf
      refine hrow_q hk rfl ?_; conv => whnf
      refine hobl_intro (by simp; omega) ?_; conv => whnf
      refine hrow_q hv (by omega) ?_; conv => whnf
      ((first | refine hwrap_W ?_ | refine hwrap_raw ?_); (conv => whnf); try (refine hcut.go ?_; conv => whnf))
      refine hobl_intro (by simp; omega) ?_; conv => whnf
      refine hrow_q hv (by omega) ?_; conv => whnf
      repeat (refine hcut.go ?_; conv => whnf)
      refine hrow_set rfl (by simp; omega) ?_; conv => whnf
      have hms2 : (midS s k m).mids = _ := hms
      rw [hat] at hms2
      (exact hfin_P [(1000000, some 1000000), (1000001, some 1000001), (1000002, some 1000002), (1000003, some 1000003), (1000004, some 1000004), (1000005, some 1000005), (1000006, some 1000006), (1000007, some 1000007), (1000008, some 1000008), (1000009, some 1000009)] (by first | rfl | ((rw [hmo]; rfl)) | ((exact mid_row hmo)) | ((exact (set_row rfl).trans (row_eqs (by rw [hms2])))) ) (by repeat' (first | exact trivial | exact rfl | exact .inl rfl | exact .inr rfl | (refine ⟨⟨rfl, .inl ⟨_, rfl, ?_⟩⟩, ?_⟩) | (refine ⟨⟨rfl, _, rfl, ?_⟩, ?_⟩) | (refine ⟨⟨rfl, .inr ⟨rfl, ?_⟩⟩, ?_⟩) | (refine ⟨rfl, ?_⟩) | ((rw [hmo]; rfl)) | ((exact mid_row hmo)) | ((exact (set_row rfl).trans (row_eqs (by rw [hms2])))) | (simp; done) | (simp; rfl))))
  · ((refine hif_F ?_; conv => whnf); try (refine hcut.go ?_; conv => whnf))
    repeat (refine hcut.go ?_; conv => whnf)
    refine hrow_q hk rfl ?_; conv => whnf
    have hmo : midOf s m = m.mid := by rw [midOf, if_neg c1]
    have hms : midsOf s m = s.mids := by rw [midsOf, if_neg c1]
    (exact hfin_P [(1000000, some 1000000), (1000001, some 1000001), (1000002, some 1000002), (1000003, some 1000003), (1000004, some 1000004), (1000005, some 1000005), (1000006, some 1000006), (1000007, some 1000007), (1000008, some 1000008), (1000009, some 1000009)] (by first | rfl | ((rw [hmo]; rfl)) | ((exact row_eqs (by rw [mid_queue hk hmo]))) | ((exact row_eqs (by rw [show (midS s k m).mids = s.mids from hms]))) ) (by repeat' (first | exact trivial | exact rfl | exact .inl rfl | exact .inr rfl | (refine ⟨⟨rfl, .inl ⟨_, rfl, ?_⟩⟩, ?_⟩) | (refine ⟨⟨rfl, _, rfl, ?_⟩, ?_⟩) | (refine ⟨⟨rfl, .inr ⟨rfl, ?_⟩⟩, ?_⟩) | (refine ⟨rfl, ?_⟩) | ((rw [hmo]; rfl)) | ((exact row_eqs (by rw [mid_queue hk hmo]))) | ((exact row_eqs (by rw [show (midS s k m).mids = s.mids from hms]))) | (simp; done) | (simp; rfl))))
end Snd
end Go.HL
