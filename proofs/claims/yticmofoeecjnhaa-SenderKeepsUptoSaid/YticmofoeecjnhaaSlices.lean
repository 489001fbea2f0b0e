/- slices.Delete, slices.Insert and slices.BinarySearchFunc of spans, as what they compute. -/
import Derived.Test.YticmofoeecjnhaaSer
namespace Go.HL
open Go.Proofs
set_option maxHeartbeats 2000000
set_option maxRecDepth 100000
set_option linter.unusedSimpArgs false
theorem del_rows {rows ys : List (List PV)} {z : List PV} {i j a k m : Nat} (hij : i ≤ j) (hj : j ≤ rows.length) (ha : a = i) (hy : ys = (rows.drop j).take (rows.length - j)) (hk : k = i + ys.length) (hm : m = j - i) (_ : i + ys.length + (j - i) = rows.length) :
    splice (splice rows a ys) k (List.replicate m z) = rows.take i ++ rows.drop j ++ List.replicate (j - i) z := by
  subst ha hm
  have hy2 : ys = rows.drop j := by rw [hy, List.take_of_length_le (by simp)]
  have h1 : ys.length = rows.length - j := by rw [hy2]; simp
  have h2 : (rows.take a).length = a := by simp; omega
  have h3 : splice rows a ys = (rows.take a ++ ys) ++ rows.drop k := by rw [splice, hk]
  have h4 : (rows.take a ++ ys).length = k := by simp; omega
  rw [splice, h3, List.take_left' h4, List.drop_eq_nil_of_le (by simp only [List.length_append, List.length_drop, List.length_replicate, h2]; omega), List.append_nil, hy2]
end Go.HL
