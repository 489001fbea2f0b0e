/- The sender: what is handed on, as a whole. -/
import Derived.Test.YticmofoeecjnhaaSndL
namespace Go.HL
open Go.Proofs
namespace Snd
open Ser
set_option maxHeartbeats 8000000
set_option maxRecDepth 100000
set_option linter.unusedSimpArgs false
theorem one_ex {α : Type} {l : List α} (h : l.length = 1) : ∃ a, l = [a] := by
  match l, h with
  | [a], _ => exact ⟨a, rfl⟩
theorem two_ex {α : Type} {l : List α} (h : l.length = 2) : ∃ a b, l = [a, b] := by
  match l, h with
  | [a, b], _ => exact ⟨a, b, rfl⟩
abbrev pmB1 (t : Sender) (a : List Chunk) (L : List (Nat × HSlot)) : List (Nat × HSlot) := (2, .live (.cells 62 zeroS)) :: (16, .live (.cells 120 (pmpC t (.own 900) (.own 901) (.own 902) (.own 903) (.own 904) (.own 905) (.own 14)))) :: sndB t 900 901 902 903 904 905 ((14, .live (.cells 24 [.own 906])) :: (906, rowK a) :: L)
abbrev pmB2 (t : Sender) (a b : List Chunk) (L : List (Nat × HSlot)) : List (Nat × HSlot) := (2, .live (.cells 62 zeroS)) :: (16, .live (.cells 120 (pmpC t (.own 900) (.own 901) (.own 902) (.own 903) (.own 904) (.own 905) (.own 14)))) :: sndB t 900 901 902 903 904 905 ((14, .live (.cells 24 [.own 906, .own 907])) :: (906, rowK a) :: (907, rowK b) :: L)
theorem mp_snoc {α β : Type} (f : α → β) (A : List α) (p : α) (B : List β) : (A ++ [p]).map f ++ B = A.map f ++ f p :: B := by simp
theorem spec_pumpo1 (s : Sender) (h : PF 62 s) (hm : inI s.config.packet) (h1p : s.paths.length = 1) :
    FunOK Try.prog 30 [s.hv] noHeap (.tup [sndO (pump s).1 0 1 2 3 4 5, .own 6]) (lk .free (sndB (pump s).1 0 1 2 3 4 5 [(6, rowPk (pump s).2)])) := by
  have h0 := h.g.fit
  have e1 : PO s.config 62 1 0 ⟨expire s, [[]]⟩ := by have := expire_po h; rw [h1p] at this; exact this
  have e2 := forward_po e1
  have e3 := again_po e2
  have hF : nexts 61 (again (forward ⟨expire s, [[]]⟩)) = pumpP s := by rw [pumpP, h1p]; rfl
  have hfew := e2.pf.few
  rw [show pump s = (woken (pumpP s).s, packFrom s.config.packet 0 (pumpP s).out) from rfl]
  generalize pumpP s = F at hF ⊢
  dsimp only
  refine funOK_of mixed Try.func30 (by decide) [] (fun _ => .inl rfl) ?_
  conv => whnf
  ((refine hcall_own [(0, 20), (1, 21), (2, 22), (3, 23), (4, 24), (5, 25)]  ?_; (conv => whnf); refine ⟨_, _,  spec_own s h0, ⟨⟨⟨rfl, rfl⟩, ⟨⟨rfl, rfl⟩, ⟨⟨rfl, rfl⟩, ⟨⟨rfl, rfl⟩, ⟨⟨rfl, rfl⟩, ⟨⟨rfl, rfl⟩, trivial⟩⟩⟩⟩⟩⟩, rfl, rfl, rfl⟩, ?_⟩; conv => whnf); try (refine hcut.go ?_; conv => whnf))
  refine hobl_intro ⟨by omega, rfl, by rw [List.length_map, h1p]; decide⟩ ?_; conv => whnf
  refine ⟨1, by rw [List.length_map, h1p], by decide, ?_⟩; conv => whnf
  ((refine hdraw_intro ?_ ?_; (· kernel_rfl); conv => whnf); try (refine hcut.go ?_; conv => whnf))
  ((refine hcall_give [] [(1000000, 16), (1000001, 20), (1000002, 21), (1000003, 22), (1000004, 23), (1000005, 24), (1000006, 25), (1000007, 14)] [(0, 930), (1, 931), (2, 932), (3, 933), (4, 934), (5, 935)] ?_; (conv => whnf); refine ⟨_, _, _, _, spec_expire3 s h.g, ⟨rfl, rfl, rfl, ⟨⟨rfl, _, rfl, .inl ⟨rfl, rfl⟩⟩, ⟨⟨rfl, _, rfl, .inl ⟨rfl, rfl⟩⟩, ⟨⟨rfl, _, rfl, .inl ⟨rfl, rfl⟩⟩, ⟨⟨rfl, _, rfl, .inl ⟨rfl, rfl⟩⟩, ⟨⟨rfl, _, rfl, .inl ⟨rfl, rfl⟩⟩, ⟨⟨rfl, _, rfl, .inl ⟨rfl, rfl⟩⟩, ⟨⟨rfl, _, rfl, .inl ⟨rfl, rfl⟩⟩, ⟨⟨rfl, _, rfl, .inl ⟨rfl, rfl⟩⟩, trivial⟩⟩⟩⟩⟩⟩⟩⟩, ⟨⟨rfl, rfl⟩, ⟨⟨rfl, rfl⟩, ⟨⟨rfl, rfl⟩, ⟨⟨rfl, rfl⟩, ⟨⟨rfl, rfl⟩, ⟨⟨rfl, rfl⟩, trivial⟩⟩⟩⟩⟩⟩, rfl, rfl, rfl⟩, ?_⟩; conv => whnf); try (refine hcut.go ?_; conv => whnf))
  ((refine hcall_give [] [(1000000, 16), (1000001, 930), (1000002, 931), (1000003, 932), (1000004, 933), (1000005, 934), (1000006, 935), (1000007, 14)] [(0, 940)] ?_; (conv => whnf); refine ⟨_, _, _, _, spec_forward3 (expire s) (by have := e1.pf.few; dsimp only at this; omega) e1.paths, ⟨rfl, rfl, rfl, ⟨⟨rfl, _, rfl, .inl ⟨rfl, rfl⟩⟩, ⟨⟨rfl, _, rfl, .inl ⟨rfl, rfl⟩⟩, ⟨⟨rfl, _, rfl, .inl ⟨rfl, rfl⟩⟩, ⟨⟨rfl, _, rfl, .inl ⟨rfl, rfl⟩⟩, ⟨⟨rfl, _, rfl, .inl ⟨rfl, rfl⟩⟩, ⟨⟨rfl, _, rfl, .inl ⟨rfl, rfl⟩⟩, ⟨⟨rfl, _, rfl, .inl ⟨rfl, rfl⟩⟩, ⟨⟨rfl, _, rfl, .inl ⟨rfl, rfl⟩⟩, trivial⟩⟩⟩⟩⟩⟩⟩⟩, ⟨⟨rfl, rfl⟩, trivial⟩, rfl, rfl, rfl⟩, ?_⟩; conv => whnf); try (refine hcut.go ?_; conv => whnf))
  generalize forward ⟨expire s, [[]]⟩ = P1 at e2 e3 hF hfew ⊢
  obtain ⟨t1, o1⟩ := P1
  obtain ⟨a1, rfl⟩ := one_ex e2.outs
  ((refine hcall_give [] [(1000000, 16), (1000001, 930), (1000002, 931), (1000003, 932), (1000004, 933), (1000005, 934), (1000006, 935), (1000007, 14), (1000008, 940)] [(0, 950)] ?_; (conv => whnf); refine ⟨_, _, _, _, spec_again1 t1 a1 (by dsimp only at hfew; omega) e2.paths (by have := (e2.most a1 (by simp)).1; omega), ⟨rfl, rfl, rfl, ⟨⟨rfl, _, rfl, .inl ⟨rfl, rfl⟩⟩, ⟨⟨rfl, _, rfl, .inl ⟨rfl, rfl⟩⟩, ⟨⟨rfl, _, rfl, .inl ⟨rfl, rfl⟩⟩, ⟨⟨rfl, _, rfl, .inl ⟨rfl, rfl⟩⟩, ⟨⟨rfl, _, rfl, .inl ⟨rfl, rfl⟩⟩, ⟨⟨rfl, _, rfl, .inl ⟨rfl, rfl⟩⟩, ⟨⟨rfl, _, rfl, .inl ⟨rfl, rfl⟩⟩, ⟨⟨rfl, _, rfl, .inl ⟨rfl, rfl⟩⟩, ⟨⟨rfl, _, rfl, .inl ⟨rfl, rfl⟩⟩, trivial⟩⟩⟩⟩⟩⟩⟩⟩⟩, ⟨⟨rfl, rfl⟩, trivial⟩, rfl, rfl, rfl⟩, ?_⟩; conv => whnf); try (refine hcut.go ?_; conv => whnf))
  generalize again ⟨t1, [a1]⟩ = P2 at e3 hF ⊢
  obtain ⟨t2, o2⟩ := P2
  obtain ⟨a2, rfl⟩ := one_ex e3.outs
  dsimp only at hfew
  refine ⟨{ x : Nat × Sender × List Chunk // nexts x.1 ⟨x.2.1, [x.2.2]⟩ = F ∧ PO s.config (x.1 + 1) 1 (2 ^ 27 + 99 - x.1) ⟨x.2.1, [x.2.2]⟩ ∧ 61 ≤ x.1 + x.2.1.out.length ∧ x.1 ≤ 61 },
    fun | ⟨(j, t, a), _⟩ => hs 106 [(2, .ptr 2 0), (3, hnil), (4, .ptr 16 0)] (pmB1 t a []), fun x => x.1.1, ⟨(61, t2, a2), hF, e3.mono (by dsimp only; omega), by dsimp only; omega, by dsimp only; omega⟩, ?_, ?_⟩
  · exact (hle_Q [(2, some 2), (16, some 16), (14, some 14), (900, some 930), (901, some 931), (902, some 932), (903, some 933), (904, some 934), (905, some 935), (906, some 950)])
  rintro ⟨⟨j, t, a⟩, k1, k2, k3, k4⟩
  dsimp only at k1 k2 k3 k4
  have km := k2.most a (by simp)
  conv => whnf
  have hn := spec_next1 t a k2.pf.nfit k2.paths (by omega)
  rcases next_po k2 with ⟨n1, n2⟩ | ⟨q, n1, n2, n3, n4, n5⟩
  case inr =>
    obtain ⟨u, o⟩ := q
    have n6 := n5.outs
    obtain ⟨b, rfl⟩ := one_ex n6
    dsimp only at n1 n3 n4
    rw [n1] at hn
    ((refine hcall_give [] [(1000000, 16), (1000001, 900), (1000002, 901), (1000003, 902), (1000004, 903), (1000005, 904), (1000006, 905), (1000007, 14), (1000008, 906)] [(0, 930), (1, 931), (2, 932), (3, 933), (4, 934), (5, 935), (6, 950)] ?_; (conv => whnf); refine ⟨_, _, _, _, hn, ⟨rfl, rfl, rfl, ⟨⟨rfl, _, rfl, .inl ⟨rfl, rfl⟩⟩, ⟨⟨rfl, _, rfl, .inl ⟨rfl, rfl⟩⟩, ⟨⟨rfl, _, rfl, .inl ⟨rfl, rfl⟩⟩, ⟨⟨rfl, _, rfl, .inl ⟨rfl, rfl⟩⟩, ⟨⟨rfl, _, rfl, .inl ⟨rfl, rfl⟩⟩, ⟨⟨rfl, _, rfl, .inl ⟨rfl, rfl⟩⟩, ⟨⟨rfl, _, rfl, .inl ⟨rfl, rfl⟩⟩, ⟨⟨rfl, _, rfl, .inl ⟨rfl, rfl⟩⟩, ⟨⟨rfl, _, rfl, .inl ⟨rfl, rfl⟩⟩, trivial⟩⟩⟩⟩⟩⟩⟩⟩⟩, ⟨⟨rfl, rfl⟩, ⟨⟨rfl, rfl⟩, ⟨⟨rfl, rfl⟩, ⟨⟨rfl, rfl⟩, ⟨⟨rfl, rfl⟩, ⟨⟨rfl, rfl⟩, ⟨⟨rfl, rfl⟩, trivial⟩⟩⟩⟩⟩⟩⟩, rfl, rfl, rfl⟩, ?_⟩; conv => whnf); try (refine hcut.go ?_; conv => whnf))
    obtain ⟨j, rfl⟩ : ∃ j', j = j' + 1 := ⟨j - 1, by omega⟩
    rw [nexts, n2] at k1
    exact ⟨⟨(j, u, b), k1, n5.mono (by omega), by dsimp only; omega, by dsimp only; omega⟩, (hle_Q [(2, some 2), (16, some 16), (14, some 14), (900, some 930), (901, some 931), (902, some 932), (903, some 933), (904, some 934), (905, some 935), (906, some 950)]), by dsimp only; omega⟩
  case inl =>
    dsimp only at n1
    rw [n1] at hn
    rw [nexts_none n2] at k1
    subst k1
    ((refine hcall_give [] [(1000000, 16), (1000001, 900), (1000002, 901), (1000003, 902), (1000004, 903), (1000005, 904), (1000006, 905), (1000007, 14), (1000008, 906)] [(0, 930), (1, 931), (2, 932), (3, 933), (4, 934), (5, 935), (6, 950)] ?_; (conv => whnf); refine ⟨_, _, _, _, hn, ⟨rfl, rfl, rfl, ⟨⟨rfl, _, rfl, .inl ⟨rfl, rfl⟩⟩, ⟨⟨rfl, _, rfl, .inl ⟨rfl, rfl⟩⟩, ⟨⟨rfl, _, rfl, .inl ⟨rfl, rfl⟩⟩, ⟨⟨rfl, _, rfl, .inl ⟨rfl, rfl⟩⟩, ⟨⟨rfl, _, rfl, .inl ⟨rfl, rfl⟩⟩, ⟨⟨rfl, _, rfl, .inl ⟨rfl, rfl⟩⟩, ⟨⟨rfl, _, rfl, .inl ⟨rfl, rfl⟩⟩, ⟨⟨rfl, _, rfl, .inl ⟨rfl, rfl⟩⟩, ⟨⟨rfl, _, rfl, .inl ⟨rfl, rfl⟩⟩, trivial⟩⟩⟩⟩⟩⟩⟩⟩⟩, ⟨⟨rfl, rfl⟩, ⟨⟨rfl, rfl⟩, ⟨⟨rfl, rfl⟩, ⟨⟨rfl, rfl⟩, ⟨⟨rfl, rfl⟩, ⟨⟨rfl, rfl⟩, ⟨⟨rfl, rfl⟩, trivial⟩⟩⟩⟩⟩⟩⟩, rfl, rfl, rfl⟩, ?_⟩; conv => whnf); try (refine hcut.go ?_; conv => whnf))
    ((refine hcall_give [] [(1000000, 932)] [(0, 960)] ?_; (conv => whnf); refine ⟨_, _, _, _, Sco.spec_pointG t.out t.cum (by have := k2.pf.few; dsimp only at this; omega), ⟨rfl, rfl, rfl, ⟨⟨rfl, _, rfl, .inl ⟨rfl, rfl⟩⟩, trivial⟩, ⟨⟨rfl, rfl⟩, trivial⟩, rfl, rfl, rfl⟩, ?_⟩; conv => whnf); try (refine hcut.go ?_; conv => whnf))
    ((refine hdraw_intro ?_ ?_; (· kernel_rfl); conv => whnf); try (refine hcut.go ?_; conv => whnf))
    generalize hN : (Sco.point t.out t.cum).1 = N
    have kfew := k2.pf.few
    have kpl := k2.paths
    dsimp only at kfew kpl
    refine ⟨{ x : List Path × List Path // t.paths = x.1 ++ x.2 }, fun | ⟨(A, B), _⟩ => hs 106 [(2, .ptr 2 0), (3, hnil), (4, .ptr 16 0), (5, i64 N), (44, i64 t.paths.length), (45, i64 A.length)] (pmB1 { t with paths := A.map (wake t N) ++ B } a []), fun x => x.1.2.length, ⟨([], t.paths), rfl⟩, ?_, ?_⟩
    · exact (hle_Q [(2, some 2), (16, some 16), (14, some 14), (900, some 930), (901, some 931), (902, some 932), (903, some 933), (904, some 934), (905, some 935), (906, some 950)])
    rintro ⟨⟨A, B⟩, h⟩
    dsimp only at h
    conv => whnf
    cases B with
    | cons p B =>
      have hz := zip_cons h
      ((refine hif_T ?_; conv => whnf); try (refine hcut.go ?_; conv => whnf))
      refine hobl_intro (by simp; omega) ?_; conv => whnf
      refine hrow_mid (a := A.map (wake t N)) (b := B) (s := p) rfl (by simp) ?_; conv => whnf
      by_cases d1 : p.flight > 0
      case pos =>
        rw [show decide (p.flight > 0) = true from decide_eq_true d1]
        refine hif_true rfl ?_; conv => whnf
        repeat (refine hcut.go ?_; conv => whnf)
        refine hrow_mid (a := A.map (wake t N)) (b := B) (s := p) rfl (by simp) ?_; conv => whnf
        by_cases d2 : p.alarm = 0
        case pos =>
          rw [show (p.alarm == 0) = true from beq_iff_eq.2 d2]
          conv => whnf
          refine hrow_mid (a := A.map (wake t N)) (b := B) (s := p) rfl (by simp) ?_; conv => whnf
          ((first | refine hwrap_W ?_ | refine hwrap_raw ?_); (conv => whnf); try (refine hcut.go ?_; conv => whnf))
          refine hrow_mid (a := A.map (wake t N)) (b := B) (s := p) rfl (by simp) ?_; conv => whnf
          ((refine hdraw_intro ?_ ?_; (· kernel_rfl); conv => whnf); try (refine hcut.go ?_; conv => whnf))
          ((refine hwrap_F ?_; conv => whnf); try (refine hcut.go ?_; conv => whnf))
          exact ⟨⟨(A ++ [p], B), zip_next h⟩, (hle_Q [(2, some 2), (16, some 16), (14, some 14), (900, some 900), (901, some 901), (902, some 902), (903, some 903), (904, some 904), (905, some 905), (906, some 906)] (by repeat' (first | exact trivial | exact rfl | (refine ⟨⟨rfl, ?_⟩, ?_⟩) | (refine ⟨rfl, ?_⟩) | ((rw [mp_snoc, show wake t N p = { p with alarm := W (t.clock + p.wait) } from if_pos ⟨d1, d2⟩]; refine Eq.symm (row_set (a := A.map (wake t N)) (b := B) ?_ ?_); all_goals first | rfl | (simp; done))) | (simp; done) | (simp; rfl))) (by repeat' (first | exact trivial | exact rfl | exact .inl rfl | exact .inr rfl | (refine ⟨⟨rfl, .inl ⟨_, rfl, ?_⟩⟩, ?_⟩) | (refine ⟨⟨rfl, _, rfl, ?_⟩, ?_⟩) | (refine ⟨⟨rfl, .inr ⟨rfl, ?_⟩⟩, ?_⟩) | (refine ⟨rfl, ?_⟩) | ((rw [mp_snoc, show wake t N p = { p with alarm := W (t.clock + p.wait) } from if_pos ⟨d1, d2⟩]; refine Eq.symm (row_set (a := A.map (wake t N)) (b := B) ?_ ?_); all_goals first | rfl | (simp; done))) | (simp; done) | (simp; rfl)))), by simp⟩
        case neg =>
          rw [show (p.alarm == 0) = false from beq_eq_false_iff_ne.2 d2]
          conv => whnf
          refine hrow_mid (a := A.map (wake t N)) (b := B) (s := p) rfl (by simp) ?_; conv => whnf
          by_cases d3 : p.flight = 0
          case pos =>
            rw [show (p.flight == 0) = true from beq_iff_eq.2 d3]
            refine hif_true rfl ?_; conv => whnf
            repeat (refine hcut.go ?_; conv => whnf)
            by_cases d4 : N = t.cum
            case pos =>
              rw [show (N == t.cum) = true from beq_iff_eq.2 d4]
              conv => whnf
              have d6 : wake t N p = { p with alarm := 0 } := by rw [wake, if_neg (fun h => d2 h.2), if_pos ⟨d3, d4⟩]
              refine hrow_mid (a := A.map (wake t N)) (b := B) (s := p) rfl (by simp) ?_; conv => whnf
              ((refine hwrap_F ?_; conv => whnf); try (refine hcut.go ?_; conv => whnf))
              exact ⟨⟨(A ++ [p], B), zip_next h⟩, (hle_Q [(2, some 2), (16, some 16), (14, some 14), (900, some 900), (901, some 901), (902, some 902), (903, some 903), (904, some 904), (905, some 905), (906, some 906)] (by repeat' (first | exact trivial | exact rfl | (refine ⟨⟨rfl, ?_⟩, ?_⟩) | (refine ⟨rfl, ?_⟩) | ((rw [mp_snoc, d6]; refine Eq.symm (row_set (a := A.map (wake t N)) (b := B) ?_ ?_); all_goals first | rfl | (simp; done))) | (simp; done) | (simp; rfl))) (by repeat' (first | exact trivial | exact rfl | exact .inl rfl | exact .inr rfl | (refine ⟨⟨rfl, .inl ⟨_, rfl, ?_⟩⟩, ?_⟩) | (refine ⟨⟨rfl, _, rfl, ?_⟩, ?_⟩) | (refine ⟨⟨rfl, .inr ⟨rfl, ?_⟩⟩, ?_⟩) | (refine ⟨rfl, ?_⟩) | ((rw [mp_snoc, d6]; refine Eq.symm (row_set (a := A.map (wake t N)) (b := B) ?_ ?_); all_goals first | rfl | (simp; done))) | (simp; done) | (simp; rfl)))), by simp⟩
            case neg =>
              rw [show (N == t.cum) = false from beq_eq_false_iff_ne.2 d4]
              conv => whnf
              have d6 : wake t N p = p := by rw [wake, if_neg (fun h => d2 h.2), if_neg (fun h => d4 h.2)]
              ((refine hwrap_F ?_; conv => whnf); try (refine hcut.go ?_; conv => whnf))
              exact ⟨⟨(A ++ [p], B), zip_next h⟩, (hle_Q [(2, some 2), (16, some 16), (14, some 14), (900, some 900), (901, some 901), (902, some 902), (903, some 903), (904, some 904), (905, some 905), (906, some 906)] (by repeat' (first | exact trivial | exact rfl | (refine ⟨⟨rfl, ?_⟩, ?_⟩) | (refine ⟨rfl, ?_⟩) | ((exact row_eqs (by rw [mp_snoc, d6]))) | (simp; done) | (simp; rfl))) (by repeat' (first | exact trivial | exact rfl | exact .inl rfl | exact .inr rfl | (refine ⟨⟨rfl, .inl ⟨_, rfl, ?_⟩⟩, ?_⟩) | (refine ⟨⟨rfl, _, rfl, ?_⟩, ?_⟩) | (refine ⟨⟨rfl, .inr ⟨rfl, ?_⟩⟩, ?_⟩) | (refine ⟨rfl, ?_⟩) | ((exact row_eqs (by rw [mp_snoc, d6]))) | (simp; done) | (simp; rfl)))), by simp⟩
          case neg =>
            rw [show (p.flight == 0) = false from beq_eq_false_iff_ne.2 d3]
            conv => whnf
            have d6 : wake t N p = p := by rw [wake, if_neg (fun h => d2 h.2), if_neg (fun h => d3 h.1)]
            ((refine hwrap_F ?_; conv => whnf); try (refine hcut.go ?_; conv => whnf))
            exact ⟨⟨(A ++ [p], B), zip_next h⟩, (hle_Q [(2, some 2), (16, some 16), (14, some 14), (900, some 900), (901, some 901), (902, some 902), (903, some 903), (904, some 904), (905, some 905), (906, some 906)] (by repeat' (first | exact trivial | exact rfl | (refine ⟨⟨rfl, ?_⟩, ?_⟩) | (refine ⟨rfl, ?_⟩) | ((exact row_eqs (by rw [mp_snoc, d6]))) | (simp; done) | (simp; rfl))) (by repeat' (first | exact trivial | exact rfl | exact .inl rfl | exact .inr rfl | (refine ⟨⟨rfl, .inl ⟨_, rfl, ?_⟩⟩, ?_⟩) | (refine ⟨⟨rfl, _, rfl, ?_⟩, ?_⟩) | (refine ⟨⟨rfl, .inr ⟨rfl, ?_⟩⟩, ?_⟩) | (refine ⟨rfl, ?_⟩) | ((exact row_eqs (by rw [mp_snoc, d6]))) | (simp; done) | (simp; rfl)))), by simp⟩
      case neg =>
        rw [show decide (p.flight > 0) = false from decide_eq_false d1]
        conv => whnf
        refine hrow_mid (a := A.map (wake t N)) (b := B) (s := p) rfl (by simp) ?_; conv => whnf
        by_cases d3 : p.flight = 0
        case pos =>
          rw [show (p.flight == 0) = true from beq_iff_eq.2 d3]
          refine hif_true rfl ?_; conv => whnf
          repeat (refine hcut.go ?_; conv => whnf)
          by_cases d4 : N = t.cum
          case pos =>
            rw [show (N == t.cum) = true from beq_iff_eq.2 d4]
            conv => whnf
            have d6 : wake t N p = { p with alarm := 0 } := by rw [wake, if_neg (fun h => d1 h.1), if_pos ⟨d3, d4⟩]
            refine hrow_mid (a := A.map (wake t N)) (b := B) (s := p) rfl (by simp) ?_; conv => whnf
            ((refine hwrap_F ?_; conv => whnf); try (refine hcut.go ?_; conv => whnf))
            exact ⟨⟨(A ++ [p], B), zip_next h⟩, (hle_Q [(2, some 2), (16, some 16), (14, some 14), (900, some 900), (901, some 901), (902, some 902), (903, some 903), (904, some 904), (905, some 905), (906, some 906)] (by repeat' (first | exact trivial | exact rfl | (refine ⟨⟨rfl, ?_⟩, ?_⟩) | (refine ⟨rfl, ?_⟩) | ((rw [mp_snoc, d6]; refine Eq.symm (row_set (a := A.map (wake t N)) (b := B) ?_ ?_); all_goals first | rfl | (simp; done))) | (simp; done) | (simp; rfl))) (by repeat' (first | exact trivial | exact rfl | exact .inl rfl | exact .inr rfl | (refine ⟨⟨rfl, .inl ⟨_, rfl, ?_⟩⟩, ?_⟩) | (refine ⟨⟨rfl, _, rfl, ?_⟩, ?_⟩) | (refine ⟨⟨rfl, .inr ⟨rfl, ?_⟩⟩, ?_⟩) | (refine ⟨rfl, ?_⟩) | ((rw [mp_snoc, d6]; refine Eq.symm (row_set (a := A.map (wake t N)) (b := B) ?_ ?_); all_goals first | rfl | (simp; done))) | (simp; done) | (simp; rfl)))), by simp⟩
          case neg =>
            rw [show (N == t.cum) = false from beq_eq_false_iff_ne.2 d4]
            conv => whnf
            have d6 : wake t N p = p := by rw [wake, if_neg (fun h => d1 h.1), if_neg (fun h => d4 h.2)]
            ((refine hwrap_F ?_; conv => whnf); try (refine hcut.go ?_; conv => whnf))
            exact ⟨⟨(A ++ [p], B), zip_next h⟩, (hle_Q [(2, some 2), (16, some 16), (14, some 14), (900, some 900), (901, some 901), (902, some 902), (903, some 903), (904, some 904), (905, some 905), (906, some 906)] (by repeat' (first | exact trivial | exact rfl | (refine ⟨⟨rfl, ?_⟩, ?_⟩) | (refine ⟨rfl, ?_⟩) | ((exact row_eqs (by rw [mp_snoc, d6]))) | (simp; done) | (simp; rfl))) (by repeat' (first | exact trivial | exact rfl | exact .inl rfl | exact .inr rfl | (refine ⟨⟨rfl, .inl ⟨_, rfl, ?_⟩⟩, ?_⟩) | (refine ⟨⟨rfl, _, rfl, ?_⟩, ?_⟩) | (refine ⟨⟨rfl, .inr ⟨rfl, ?_⟩⟩, ?_⟩) | (refine ⟨rfl, ?_⟩) | ((exact row_eqs (by rw [mp_snoc, d6]))) | (simp; done) | (simp; rfl)))), by simp⟩
        case neg =>
          rw [show (p.flight == 0) = false from beq_eq_false_iff_ne.2 d3]
          conv => whnf
          have d6 : wake t N p = p := by rw [wake, if_neg (fun h => d1 h.1), if_neg (fun h => d3 h.1)]
          ((refine hwrap_F ?_; conv => whnf); try (refine hcut.go ?_; conv => whnf))
          exact ⟨⟨(A ++ [p], B), zip_next h⟩, (hle_Q [(2, some 2), (16, some 16), (14, some 14), (900, some 900), (901, some 901), (902, some 902), (903, some 903), (904, some 904), (905, some 905), (906, some 906)] (by repeat' (first | exact trivial | exact rfl | (refine ⟨⟨rfl, ?_⟩, ?_⟩) | (refine ⟨rfl, ?_⟩) | ((exact row_eqs (by rw [mp_snoc, d6]))) | (simp; done) | (simp; rfl))) (by repeat' (first | exact trivial | exact rfl | exact .inl rfl | exact .inr rfl | (refine ⟨⟨rfl, .inl ⟨_, rfl, ?_⟩⟩, ?_⟩) | (refine ⟨⟨rfl, _, rfl, ?_⟩, ?_⟩) | (refine ⟨⟨rfl, .inr ⟨rfl, ?_⟩⟩, ?_⟩) | (refine ⟨rfl, ?_⟩) | ((exact row_eqs (by rw [mp_snoc, d6]))) | (simp; done) | (simp; rfl)))), by simp⟩
    | nil =>
      have hz := zip_nil h
      rw [List.append_nil] at h
      ((refine hif_F ?_; conv => whnf); try (refine hcut.go ?_; conv => whnf))
      ((refine hcall_give [] [(1000000, 16), (1000001, 900), (1000002, 901), (1000003, 902), (1000004, 903), (1000005, 904), (1000006, 905), (1000007, 14), (1000008, 906)] [(0, 970)] ?_; (conv => whnf); refine ⟨_, _, _, _, spec_packets1 { t with paths := A.map (wake t N) ++ [] } a (by show inI t.config.packet; rw [show t.config = s.config from k2.config]; exact hm) (by omega) km.2, ⟨rfl, rfl, rfl, ⟨⟨rfl, _, rfl, .inl ⟨rfl, rfl⟩⟩, ⟨⟨rfl, _, rfl, .inl ⟨rfl, rfl⟩⟩, ⟨⟨rfl, _, rfl, .inl ⟨rfl, rfl⟩⟩, ⟨⟨rfl, _, rfl, .inl ⟨rfl, rfl⟩⟩, ⟨⟨rfl, _, rfl, .inl ⟨rfl, rfl⟩⟩, ⟨⟨rfl, _, rfl, .inl ⟨rfl, rfl⟩⟩, ⟨⟨rfl, _, rfl, .inl ⟨rfl, rfl⟩⟩, ⟨⟨rfl, _, rfl, .inl ⟨rfl, rfl⟩⟩, ⟨⟨rfl, _, rfl, .inl ⟨rfl, rfl⟩⟩, trivial⟩⟩⟩⟩⟩⟩⟩⟩⟩, ⟨⟨rfl, rfl⟩, trivial⟩, rfl, rfl, rfl⟩, ?_⟩; conv => whnf); try (refine hcut.go ?_; conv => whnf))
      refine hdraw_ex [3] ?_ ?_ ?_
      · kernel_rfl
      · refine ⟨?_, trivial⟩
        refine And.intro trivial ?_
        refine And.intro trivial ?_
        refine And.intro ?_ trivial
        conv => whnf
        refine And.intro ?_ ?_
        · conv => whnf
        refine And.intro ?_ trivial
        conv => whnf
        all_goals first | rfl | trace_state
      conv => whnf
      refine hfin_of [(0, some 900), (1, some 901), (2, some 902), (3, some 903), (4, some 904), (5, some 905), (6, some 970)] rfl rfl trivial rfl rfl ⟨⟨rfl, .inl ⟨900, rfl, rfl⟩⟩, ⟨rfl, .inl ⟨901, rfl, rfl⟩⟩, ⟨rfl, .inl ⟨902, rfl, rfl⟩⟩, ⟨rfl, .inl ⟨903, rfl, ?_⟩⟩, ⟨rfl, .inl ⟨904, rfl, rfl⟩⟩, ⟨rfl, .inl ⟨905, rfl, rfl⟩⟩, ⟨rfl, .inl ⟨970, rfl, ?_⟩⟩, trivial⟩
      · exact row_eqs (by rw [List.append_nil, woken, hN, h])
      · exact row_eqs (by rw [show t.config = s.config from k2.config])
theorem spec_pumpo2 (s : Sender) (h : PF 62 s) (hm : inI s.config.packet) (h1p : s.paths.length = 2) :
    FunOK Try.prog 30 [s.hv] noHeap (.tup [sndO (pump s).1 0 1 2 3 4 5, .own 6]) (lk .free (sndB (pump s).1 0 1 2 3 4 5 [(6, rowPk (pump s).2)])) := by
  have h0 := h.g.fit
  have e1 : PO s.config 62 2 0 ⟨expire s, [[], []]⟩ := by have := expire_po h; rw [h1p] at this; exact this
  have e2 := forward_po e1
  have e3 := again_po e2
  have hF : nexts 61 (again (forward ⟨expire s, [[], []]⟩)) = pumpP s := by rw [pumpP, h1p]; rfl
  have hfew := e2.pf.few
  rw [show pump s = (woken (pumpP s).s, packFrom s.config.packet 0 (pumpP s).out) from rfl]
  generalize pumpP s = F at hF ⊢
  dsimp only
  refine funOK_of mixed Try.func30 (by decide) [] (fun _ => .inl rfl) ?_
  conv => whnf
  ((refine hcall_own [(0, 20), (1, 21), (2, 22), (3, 23), (4, 24), (5, 25)]  ?_; (conv => whnf); refine ⟨_, _,  spec_own s h0, ⟨⟨⟨rfl, rfl⟩, ⟨⟨rfl, rfl⟩, ⟨⟨rfl, rfl⟩, ⟨⟨rfl, rfl⟩, ⟨⟨rfl, rfl⟩, ⟨⟨rfl, rfl⟩, trivial⟩⟩⟩⟩⟩⟩, rfl, rfl, rfl⟩, ?_⟩; conv => whnf); try (refine hcut.go ?_; conv => whnf))
  refine hobl_intro ⟨by omega, rfl, by rw [List.length_map, h1p]; decide⟩ ?_; conv => whnf
  refine ⟨2, by rw [List.length_map, h1p], by decide, ?_⟩; conv => whnf
  ((refine hdraw_intro ?_ ?_; (· kernel_rfl); conv => whnf); try (refine hcut.go ?_; conv => whnf))
  ((refine hcall_give [] [(1000000, 16), (1000001, 20), (1000002, 21), (1000003, 22), (1000004, 23), (1000005, 24), (1000006, 25), (1000007, 14)] [(0, 930), (1, 931), (2, 932), (3, 933), (4, 934), (5, 935)] ?_; (conv => whnf); refine ⟨_, _, _, _, spec_expire4 s h.g, ⟨rfl, rfl, rfl, ⟨⟨rfl, _, rfl, .inl ⟨rfl, rfl⟩⟩, ⟨⟨rfl, _, rfl, .inl ⟨rfl, rfl⟩⟩, ⟨⟨rfl, _, rfl, .inl ⟨rfl, rfl⟩⟩, ⟨⟨rfl, _, rfl, .inl ⟨rfl, rfl⟩⟩, ⟨⟨rfl, _, rfl, .inl ⟨rfl, rfl⟩⟩, ⟨⟨rfl, _, rfl, .inl ⟨rfl, rfl⟩⟩, ⟨⟨rfl, _, rfl, .inl ⟨rfl, rfl⟩⟩, ⟨⟨rfl, _, rfl, .inl ⟨rfl, rfl⟩⟩, trivial⟩⟩⟩⟩⟩⟩⟩⟩, ⟨⟨rfl, rfl⟩, ⟨⟨rfl, rfl⟩, ⟨⟨rfl, rfl⟩, ⟨⟨rfl, rfl⟩, ⟨⟨rfl, rfl⟩, ⟨⟨rfl, rfl⟩, trivial⟩⟩⟩⟩⟩⟩, rfl, rfl, rfl⟩, ?_⟩; conv => whnf); try (refine hcut.go ?_; conv => whnf))
  ((refine hcall_give [] [(1000000, 16), (1000001, 930), (1000002, 931), (1000003, 932), (1000004, 933), (1000005, 934), (1000006, 935), (1000007, 14)] [(0, 940), (1, 941)] ?_; (conv => whnf); refine ⟨_, _, _, _, spec_forward4 (expire s) (by have := e1.pf.few; dsimp only at this; omega) e1.paths, ⟨rfl, rfl, rfl, ⟨⟨rfl, _, rfl, .inl ⟨rfl, rfl⟩⟩, ⟨⟨rfl, _, rfl, .inl ⟨rfl, rfl⟩⟩, ⟨⟨rfl, _, rfl, .inl ⟨rfl, rfl⟩⟩, ⟨⟨rfl, _, rfl, .inl ⟨rfl, rfl⟩⟩, ⟨⟨rfl, _, rfl, .inl ⟨rfl, rfl⟩⟩, ⟨⟨rfl, _, rfl, .inl ⟨rfl, rfl⟩⟩, ⟨⟨rfl, _, rfl, .inl ⟨rfl, rfl⟩⟩, ⟨⟨rfl, _, rfl, .inl ⟨rfl, rfl⟩⟩, trivial⟩⟩⟩⟩⟩⟩⟩⟩, ⟨⟨rfl, rfl⟩, ⟨⟨rfl, rfl⟩, trivial⟩⟩, rfl, rfl, rfl⟩, ?_⟩; conv => whnf); try (refine hcut.go ?_; conv => whnf))
  generalize forward ⟨expire s, [[], []]⟩ = P1 at e2 e3 hF hfew ⊢
  obtain ⟨t1, o1⟩ := P1
  obtain ⟨a1, b1, rfl⟩ := two_ex e2.outs
  ((refine hcall_give [] [(1000000, 16), (1000001, 930), (1000002, 931), (1000003, 932), (1000004, 933), (1000005, 934), (1000006, 935), (1000007, 14), (1000008, 940), (1000009, 941)] [(0, 950), (1, 951)] ?_; (conv => whnf); refine ⟨_, _, _, _, spec_again2 t1 a1 b1 (by dsimp only at hfew; omega) e2.paths (by have := (e2.most a1 (by simp)).1; have := (e2.most b1 (by simp)).1; omega), ⟨rfl, rfl, rfl, ⟨⟨rfl, _, rfl, .inl ⟨rfl, rfl⟩⟩, ⟨⟨rfl, _, rfl, .inl ⟨rfl, rfl⟩⟩, ⟨⟨rfl, _, rfl, .inl ⟨rfl, rfl⟩⟩, ⟨⟨rfl, _, rfl, .inl ⟨rfl, rfl⟩⟩, ⟨⟨rfl, _, rfl, .inl ⟨rfl, rfl⟩⟩, ⟨⟨rfl, _, rfl, .inl ⟨rfl, rfl⟩⟩, ⟨⟨rfl, _, rfl, .inl ⟨rfl, rfl⟩⟩, ⟨⟨rfl, _, rfl, .inl ⟨rfl, rfl⟩⟩, ⟨⟨rfl, _, rfl, .inl ⟨rfl, rfl⟩⟩, ⟨⟨rfl, _, rfl, .inl ⟨rfl, rfl⟩⟩, trivial⟩⟩⟩⟩⟩⟩⟩⟩⟩⟩, ⟨⟨rfl, rfl⟩, ⟨⟨rfl, rfl⟩, trivial⟩⟩, rfl, rfl, rfl⟩, ?_⟩; conv => whnf); try (refine hcut.go ?_; conv => whnf))
  generalize again ⟨t1, [a1, b1]⟩ = P2 at e3 hF ⊢
  obtain ⟨t2, o2⟩ := P2
  obtain ⟨a2, b2, rfl⟩ := two_ex e3.outs
  dsimp only at hfew
  refine ⟨{ x : Nat × Sender × List Chunk × List Chunk // nexts x.1 ⟨x.2.1, [x.2.2.1, x.2.2.2]⟩ = F ∧ PO s.config (x.1 + 1) 2 (2 ^ 27 + 99 - x.1) ⟨x.2.1, [x.2.2.1, x.2.2.2]⟩ ∧ 61 ≤ x.1 + x.2.1.out.length ∧ x.1 ≤ 61 },
    fun | ⟨(j, t, a, b), _⟩ => hs 106 [(2, .ptr 2 0), (3, hnil), (4, .ptr 16 0)] (pmB2 t a b []), fun x => x.1.1, ⟨(61, t2, a2, b2), hF, e3.mono (by dsimp only; omega), by dsimp only; omega, by dsimp only; omega⟩, ?_, ?_⟩
  · exact (hle_Q [(2, some 2), (16, some 16), (14, some 14), (900, some 930), (901, some 931), (902, some 932), (903, some 933), (904, some 934), (905, some 935), (906, some 950), (907, some 951)])
  rintro ⟨⟨j, t, a, b⟩, k1, k2, k3, k4⟩
  dsimp only at k1 k2 k3 k4
  have km := k2.most a (by simp)
  have kn := k2.most b (by simp)
  conv => whnf
  have hn := spec_next2 t a b k2.pf.nfit k2.paths (by omega)
  rcases next_po k2 with ⟨n1, n2⟩ | ⟨q, n1, n2, n3, n4, n5⟩
  case inr =>
    obtain ⟨u, o⟩ := q
    have n6 := n5.outs
    obtain ⟨a', b', rfl⟩ := two_ex n6
    dsimp only at n1 n3 n4
    rw [n1] at hn
    ((refine hcall_give [] [(1000000, 16), (1000001, 900), (1000002, 901), (1000003, 902), (1000004, 903), (1000005, 904), (1000006, 905), (1000007, 14), (1000008, 906), (1000009, 907)] [(0, 930), (1, 931), (2, 932), (3, 933), (4, 934), (5, 935), (6, 950), (7, 951)] ?_; (conv => whnf); refine ⟨_, _, _, _, hn, ⟨rfl, rfl, rfl, ⟨⟨rfl, _, rfl, .inl ⟨rfl, rfl⟩⟩, ⟨⟨rfl, _, rfl, .inl ⟨rfl, rfl⟩⟩, ⟨⟨rfl, _, rfl, .inl ⟨rfl, rfl⟩⟩, ⟨⟨rfl, _, rfl, .inl ⟨rfl, rfl⟩⟩, ⟨⟨rfl, _, rfl, .inl ⟨rfl, rfl⟩⟩, ⟨⟨rfl, _, rfl, .inl ⟨rfl, rfl⟩⟩, ⟨⟨rfl, _, rfl, .inl ⟨rfl, rfl⟩⟩, ⟨⟨rfl, _, rfl, .inl ⟨rfl, rfl⟩⟩, ⟨⟨rfl, _, rfl, .inl ⟨rfl, rfl⟩⟩, ⟨⟨rfl, _, rfl, .inl ⟨rfl, rfl⟩⟩, trivial⟩⟩⟩⟩⟩⟩⟩⟩⟩⟩, ⟨⟨rfl, rfl⟩, ⟨⟨rfl, rfl⟩, ⟨⟨rfl, rfl⟩, ⟨⟨rfl, rfl⟩, ⟨⟨rfl, rfl⟩, ⟨⟨rfl, rfl⟩, ⟨⟨rfl, rfl⟩, ⟨⟨rfl, rfl⟩, trivial⟩⟩⟩⟩⟩⟩⟩⟩, rfl, rfl, rfl⟩, ?_⟩; conv => whnf); try (refine hcut.go ?_; conv => whnf))
    obtain ⟨j, rfl⟩ : ∃ j', j = j' + 1 := ⟨j - 1, by omega⟩
    rw [nexts, n2] at k1
    exact ⟨⟨(j, u, a', b'), k1, n5.mono (by omega), by dsimp only; omega, by dsimp only; omega⟩, (hle_Q [(2, some 2), (16, some 16), (14, some 14), (900, some 930), (901, some 931), (902, some 932), (903, some 933), (904, some 934), (905, some 935), (906, some 950), (907, some 951)]), by dsimp only; omega⟩
  case inl =>
    dsimp only at n1
    rw [n1] at hn
    rw [nexts_none n2] at k1
    subst k1
    ((refine hcall_give [] [(1000000, 16), (1000001, 900), (1000002, 901), (1000003, 902), (1000004, 903), (1000005, 904), (1000006, 905), (1000007, 14), (1000008, 906), (1000009, 907)] [(0, 930), (1, 931), (2, 932), (3, 933), (4, 934), (5, 935), (6, 950), (7, 951)] ?_; (conv => whnf); refine ⟨_, _, _, _, hn, ⟨rfl, rfl, rfl, ⟨⟨rfl, _, rfl, .inl ⟨rfl, rfl⟩⟩, ⟨⟨rfl, _, rfl, .inl ⟨rfl, rfl⟩⟩, ⟨⟨rfl, _, rfl, .inl ⟨rfl, rfl⟩⟩, ⟨⟨rfl, _, rfl, .inl ⟨rfl, rfl⟩⟩, ⟨⟨rfl, _, rfl, .inl ⟨rfl, rfl⟩⟩, ⟨⟨rfl, _, rfl, .inl ⟨rfl, rfl⟩⟩, ⟨⟨rfl, _, rfl, .inl ⟨rfl, rfl⟩⟩, ⟨⟨rfl, _, rfl, .inl ⟨rfl, rfl⟩⟩, ⟨⟨rfl, _, rfl, .inl ⟨rfl, rfl⟩⟩, ⟨⟨rfl, _, rfl, .inl ⟨rfl, rfl⟩⟩, trivial⟩⟩⟩⟩⟩⟩⟩⟩⟩⟩, ⟨⟨rfl, rfl⟩, ⟨⟨rfl, rfl⟩, ⟨⟨rfl, rfl⟩, ⟨⟨rfl, rfl⟩, ⟨⟨rfl, rfl⟩, ⟨⟨rfl, rfl⟩, ⟨⟨rfl, rfl⟩, ⟨⟨rfl, rfl⟩, trivial⟩⟩⟩⟩⟩⟩⟩⟩, rfl, rfl, rfl⟩, ?_⟩; conv => whnf); try (refine hcut.go ?_; conv => whnf))
    ((refine hcall_give [] [(1000000, 932)] [(0, 960)] ?_; (conv => whnf); refine ⟨_, _, _, _, Sco.spec_pointG t.out t.cum (by have := k2.pf.few; dsimp only at this; omega), ⟨rfl, rfl, rfl, ⟨⟨rfl, _, rfl, .inl ⟨rfl, rfl⟩⟩, trivial⟩, ⟨⟨rfl, rfl⟩, trivial⟩, rfl, rfl, rfl⟩, ?_⟩; conv => whnf); try (refine hcut.go ?_; conv => whnf))
    ((refine hdraw_intro ?_ ?_; (· kernel_rfl); conv => whnf); try (refine hcut.go ?_; conv => whnf))
    generalize hN : (Sco.point t.out t.cum).1 = N
    have kfew := k2.pf.few
    have kpl := k2.paths
    dsimp only at kfew kpl
    refine ⟨{ x : List Path × List Path // t.paths = x.1 ++ x.2 }, fun | ⟨(A, B), _⟩ => hs 106 [(2, .ptr 2 0), (3, hnil), (4, .ptr 16 0), (5, i64 N), (44, i64 t.paths.length), (45, i64 A.length)] (pmB2 { t with paths := A.map (wake t N) ++ B } a b []), fun x => x.1.2.length, ⟨([], t.paths), rfl⟩, ?_, ?_⟩
    · exact (hle_Q [(2, some 2), (16, some 16), (14, some 14), (900, some 930), (901, some 931), (902, some 932), (903, some 933), (904, some 934), (905, some 935), (906, some 950), (907, some 951)])
    rintro ⟨⟨A, B⟩, h⟩
    dsimp only at h
    conv => whnf
    cases B with
    | cons p B =>
      have hz := zip_cons h
      ((refine hif_T ?_; conv => whnf); try (refine hcut.go ?_; conv => whnf))
      refine hobl_intro (by simp; omega) ?_; conv => whnf
      refine hrow_mid (a := A.map (wake t N)) (b := B) (s := p) rfl (by simp) ?_; conv => whnf
      by_cases d1 : p.flight > 0
      case pos =>
        rw [show decide (p.flight > 0) = true from decide_eq_true d1]
        refine hif_true rfl ?_; conv => whnf
        repeat (refine hcut.go ?_; conv => whnf)
        refine hrow_mid (a := A.map (wake t N)) (b := B) (s := p) rfl (by simp) ?_; conv => whnf
        by_cases d2 : p.alarm = 0
        case pos =>
          rw [show (p.alarm == 0) = true from beq_iff_eq.2 d2]
          conv => whnf
          refine hrow_mid (a := A.map (wake t N)) (b := B) (s := p) rfl (by simp) ?_; conv => whnf
          ((first | refine hwrap_W ?_ | refine hwrap_raw ?_); (conv => whnf); try (refine hcut.go ?_; conv => whnf))
          refine hrow_mid (a := A.map (wake t N)) (b := B) (s := p) rfl (by simp) ?_; conv => whnf
          ((refine hdraw_intro ?_ ?_; (· kernel_rfl); conv => whnf); try (refine hcut.go ?_; conv => whnf))
          ((refine hwrap_F ?_; conv => whnf); try (refine hcut.go ?_; conv => whnf))
          exact ⟨⟨(A ++ [p], B), zip_next h⟩, (hle_Q [(2, some 2), (16, some 16), (14, some 14), (900, some 900), (901, some 901), (902, some 902), (903, some 903), (904, some 904), (905, some 905), (906, some 906), (907, some 907)] (by repeat' (first | exact trivial | exact rfl | (refine ⟨⟨rfl, ?_⟩, ?_⟩) | (refine ⟨rfl, ?_⟩) | ((rw [mp_snoc, show wake t N p = { p with alarm := W (t.clock + p.wait) } from if_pos ⟨d1, d2⟩]; refine Eq.symm (row_set (a := A.map (wake t N)) (b := B) ?_ ?_); all_goals first | rfl | (simp; done))) | (simp; done) | (simp; rfl))) (by repeat' (first | exact trivial | exact rfl | exact .inl rfl | exact .inr rfl | (refine ⟨⟨rfl, .inl ⟨_, rfl, ?_⟩⟩, ?_⟩) | (refine ⟨⟨rfl, _, rfl, ?_⟩, ?_⟩) | (refine ⟨⟨rfl, .inr ⟨rfl, ?_⟩⟩, ?_⟩) | (refine ⟨rfl, ?_⟩) | ((rw [mp_snoc, show wake t N p = { p with alarm := W (t.clock + p.wait) } from if_pos ⟨d1, d2⟩]; refine Eq.symm (row_set (a := A.map (wake t N)) (b := B) ?_ ?_); all_goals first | rfl | (simp; done))) | (simp; done) | (simp; rfl)))), by simp⟩
        case neg =>
          rw [show (p.alarm == 0) = false from beq_eq_false_iff_ne.2 d2]
          conv => whnf
          refine hrow_mid (a := A.map (wake t N)) (b := B) (s := p) rfl (by simp) ?_; conv => whnf
          by_cases d3 : p.flight = 0
          case pos =>
            rw [show (p.flight == 0) = true from beq_iff_eq.2 d3]
            refine hif_true rfl ?_; conv => whnf
            repeat (refine hcut.go ?_; conv => whnf)
            by_cases d4 : N = t.cum
            case pos =>
              rw [show (N == t.cum) = true from beq_iff_eq.2 d4]
              conv => whnf
              have d6 : wake t N p = { p with alarm := 0 } := by rw [wake, if_neg (fun h => d2 h.2), if_pos ⟨d3, d4⟩]
              refine hrow_mid (a := A.map (wake t N)) (b := B) (s := p) rfl (by simp) ?_; conv => whnf
              ((refine hwrap_F ?_; conv => whnf); try (refine hcut.go ?_; conv => whnf))
              exact ⟨⟨(A ++ [p], B), zip_next h⟩, (hle_Q [(2, some 2), (16, some 16), (14, some 14), (900, some 900), (901, some 901), (902, some 902), (903, some 903), (904, some 904), (905, some 905), (906, some 906), (907, some 907)] (by repeat' (first | exact trivial | exact rfl | (refine ⟨⟨rfl, ?_⟩, ?_⟩) | (refine ⟨rfl, ?_⟩) | ((rw [mp_snoc, d6]; refine Eq.symm (row_set (a := A.map (wake t N)) (b := B) ?_ ?_); all_goals first | rfl | (simp; done))) | (simp; done) | (simp; rfl))) (by repeat' (first | exact trivial | exact rfl | exact .inl rfl | exact .inr rfl | (refine ⟨⟨rfl, .inl ⟨_, rfl, ?_⟩⟩, ?_⟩) | (refine ⟨⟨rfl, _, rfl, ?_⟩, ?_⟩) | (refine ⟨⟨rfl, .inr ⟨rfl, ?_⟩⟩, ?_⟩) | (refine ⟨rfl, ?_⟩) | ((rw [mp_snoc, d6]; refine Eq.symm (row_set (a := A.map (wake t N)) (b := B) ?_ ?_); all_goals first | rfl | (simp; done))) | (simp; done) | (simp; rfl)))), by simp⟩
            case neg =>
              rw [show (N == t.cum) = false from beq_eq_false_iff_ne.2 d4]
              conv => whnf
              have d6 : wake t N p = p := by rw [wake, if_neg (fun h => d2 h.2), if_neg (fun h => d4 h.2)]
              ((refine hwrap_F ?_; conv => whnf); try (refine hcut.go ?_; conv => whnf))
              exact ⟨⟨(A ++ [p], B), zip_next h⟩, (hle_Q [(2, some 2), (16, some 16), (14, some 14), (900, some 900), (901, some 901), (902, some 902), (903, some 903), (904, some 904), (905, some 905), (906, some 906), (907, some 907)] (by repeat' (first | exact trivial | exact rfl | (refine ⟨⟨rfl, ?_⟩, ?_⟩) | (refine ⟨rfl, ?_⟩) | ((exact row_eqs (by rw [mp_snoc, d6]))) | (simp; done) | (simp; rfl))) (by repeat' (first | exact trivial | exact rfl | exact .inl rfl | exact .inr rfl | (refine ⟨⟨rfl, .inl ⟨_, rfl, ?_⟩⟩, ?_⟩) | (refine ⟨⟨rfl, _, rfl, ?_⟩, ?_⟩) | (refine ⟨⟨rfl, .inr ⟨rfl, ?_⟩⟩, ?_⟩) | (refine ⟨rfl, ?_⟩) | ((exact row_eqs (by rw [mp_snoc, d6]))) | (simp; done) | (simp; rfl)))), by simp⟩
          case neg =>
            rw [show (p.flight == 0) = false from beq_eq_false_iff_ne.2 d3]
            conv => whnf
            have d6 : wake t N p = p := by rw [wake, if_neg (fun h => d2 h.2), if_neg (fun h => d3 h.1)]
            ((refine hwrap_F ?_; conv => whnf); try (refine hcut.go ?_; conv => whnf))
            exact ⟨⟨(A ++ [p], B), zip_next h⟩, (hle_Q [(2, some 2), (16, some 16), (14, some 14), (900, some 900), (901, some 901), (902, some 902), (903, some 903), (904, some 904), (905, some 905), (906, some 906), (907, some 907)] (by repeat' (first | exact trivial | exact rfl | (refine ⟨⟨rfl, ?_⟩, ?_⟩) | (refine ⟨rfl, ?_⟩) | ((exact row_eqs (by rw [mp_snoc, d6]))) | (simp; done) | (simp; rfl))) (by repeat' (first | exact trivial | exact rfl | exact .inl rfl | exact .inr rfl | (refine ⟨⟨rfl, .inl ⟨_, rfl, ?_⟩⟩, ?_⟩) | (refine ⟨⟨rfl, _, rfl, ?_⟩, ?_⟩) | (refine ⟨⟨rfl, .inr ⟨rfl, ?_⟩⟩, ?_⟩) | (refine ⟨rfl, ?_⟩) | ((exact row_eqs (by rw [mp_snoc, d6]))) | (simp; done) | (simp; rfl)))), by simp⟩
      case neg =>
        rw [show decide (p.flight > 0) = false from decide_eq_false d1]
        conv => whnf
        refine hrow_mid (a := A.map (wake t N)) (b := B) (s := p) rfl (by simp) ?_; conv => whnf
        by_cases d3 : p.flight = 0
        case pos =>
          rw [show (p.flight == 0) = true from beq_iff_eq.2 d3]
          refine hif_true rfl ?_; conv => whnf
          repeat (refine hcut.go ?_; conv => whnf)
          by_cases d4 : N = t.cum
          case pos =>
            rw [show (N == t.cum) = true from beq_iff_eq.2 d4]
            conv => whnf
            have d6 : wake t N p = { p with alarm := 0 } := by rw [wake, if_neg (fun h => d1 h.1), if_pos ⟨d3, d4⟩]
            refine hrow_mid (a := A.map (wake t N)) (b := B) (s := p) rfl (by simp) ?_; conv => whnf
            ((refine hwrap_F ?_; conv => whnf); try (refine hcut.go ?_; conv => whnf))
            exact ⟨⟨(A ++ [p], B), zip_next h⟩, (hle_Q [(2, some 2), (16, some 16), (14, some 14), (900, some 900), (901, some 901), (902, some 902), (903, some 903), (904, some 904), (905, some 905), (906, some 906), (907, some 907)] (by repeat' (first | exact trivial | exact rfl | (refine ⟨⟨rfl, ?_⟩, ?_⟩) | (refine ⟨rfl, ?_⟩) | ((rw [mp_snoc, d6]; refine Eq.symm (row_set (a := A.map (wake t N)) (b := B) ?_ ?_); all_goals first | rfl | (simp; done))) | (simp; done) | (simp; rfl))) (by repeat' (first | exact trivial | exact rfl | exact .inl rfl | exact .inr rfl | (refine ⟨⟨rfl, .inl ⟨_, rfl, ?_⟩⟩, ?_⟩) | (refine ⟨⟨rfl, _, rfl, ?_⟩, ?_⟩) | (refine ⟨⟨rfl, .inr ⟨rfl, ?_⟩⟩, ?_⟩) | (refine ⟨rfl, ?_⟩) | ((rw [mp_snoc, d6]; refine Eq.symm (row_set (a := A.map (wake t N)) (b := B) ?_ ?_); all_goals first | rfl | (simp; done))) | (simp; done) | (simp; rfl)))), by simp⟩
          case neg =>
            rw [show (N == t.cum) = false from beq_eq_false_iff_ne.2 d4]
            conv => whnf
            have d6 : wake t N p = p := by rw [wake, if_neg (fun h => d1 h.1), if_neg (fun h => d4 h.2)]
            ((refine hwrap_F ?_; conv => whnf); try (refine hcut.go ?_; conv => whnf))
            exact ⟨⟨(A ++ [p], B), zip_next h⟩, (hle_Q [(2, some 2), (16, some 16), (14, some 14), (900, some 900), (901, some 901), (902, some 902), (903, some 903), (904, some 904), (905, some 905), (906, some 906), (907, some 907)] (by repeat' (first | exact trivial | exact rfl | (refine ⟨⟨rfl, ?_⟩, ?_⟩) | (refine ⟨rfl, ?_⟩) | ((exact row_eqs (by rw [mp_snoc, d6]))) | (simp; done) | (simp; rfl))) (by repeat' (first | exact trivial | exact rfl | exact .inl rfl | exact .inr rfl | (refine ⟨⟨rfl, .inl ⟨_, rfl, ?_⟩⟩, ?_⟩) | (refine ⟨⟨rfl, _, rfl, ?_⟩, ?_⟩) | (refine ⟨⟨rfl, .inr ⟨rfl, ?_⟩⟩, ?_⟩) | (refine ⟨rfl, ?_⟩) | ((exact row_eqs (by rw [mp_snoc, d6]))) | (simp; done) | (simp; rfl)))), by simp⟩
        case neg =>
          rw [show (p.flight == 0) = false from beq_eq_false_iff_ne.2 d3]
          conv => whnf
          have d6 : wake t N p = p := by rw [wake, if_neg (fun h => d1 h.1), if_neg (fun h => d3 h.1)]
          ((refine hwrap_F ?_; conv => whnf); try (refine hcut.go ?_; conv => whnf))
          exact ⟨⟨(A ++ [p], B), zip_next h⟩, (hle_Q [(2, some 2), (16, some 16), (14, some 14), (900, some 900), (901, some 901), (902, some 902), (903, some 903), (904, some 904), (905, some 905), (906, some 906), (907, some 907)] (by repeat' (first | exact trivial | exact rfl | (refine ⟨⟨rfl, ?_⟩, ?_⟩) | (refine ⟨rfl, ?_⟩) | ((exact row_eqs (by rw [mp_snoc, d6]))) | (simp; done) | (simp; rfl))) (by repeat' (first | exact trivial | exact rfl | exact .inl rfl | exact .inr rfl | (refine ⟨⟨rfl, .inl ⟨_, rfl, ?_⟩⟩, ?_⟩) | (refine ⟨⟨rfl, _, rfl, ?_⟩, ?_⟩) | (refine ⟨⟨rfl, .inr ⟨rfl, ?_⟩⟩, ?_⟩) | (refine ⟨rfl, ?_⟩) | ((exact row_eqs (by rw [mp_snoc, d6]))) | (simp; done) | (simp; rfl)))), by simp⟩
    | nil =>
      have hz := zip_nil h
      rw [List.append_nil] at h
      ((refine hif_F ?_; conv => whnf); try (refine hcut.go ?_; conv => whnf))
      ((refine hcall_give [] [(1000000, 16), (1000001, 900), (1000002, 901), (1000003, 902), (1000004, 903), (1000005, 904), (1000006, 905), (1000007, 14), (1000008, 906), (1000009, 907)] [(0, 970)] ?_; (conv => whnf); refine ⟨_, _, _, _, spec_packets2 { t with paths := A.map (wake t N) ++ [] } a b (by show inI t.config.packet; rw [show t.config = s.config from k2.config]; exact hm) (by omega) (by omega) km.2 kn.2, ⟨rfl, rfl, rfl, ⟨⟨rfl, _, rfl, .inl ⟨rfl, rfl⟩⟩, ⟨⟨rfl, _, rfl, .inl ⟨rfl, rfl⟩⟩, ⟨⟨rfl, _, rfl, .inl ⟨rfl, rfl⟩⟩, ⟨⟨rfl, _, rfl, .inl ⟨rfl, rfl⟩⟩, ⟨⟨rfl, _, rfl, .inl ⟨rfl, rfl⟩⟩, ⟨⟨rfl, _, rfl, .inl ⟨rfl, rfl⟩⟩, ⟨⟨rfl, _, rfl, .inl ⟨rfl, rfl⟩⟩, ⟨⟨rfl, _, rfl, .inl ⟨rfl, rfl⟩⟩, ⟨⟨rfl, _, rfl, .inl ⟨rfl, rfl⟩⟩, ⟨⟨rfl, _, rfl, .inl ⟨rfl, rfl⟩⟩, trivial⟩⟩⟩⟩⟩⟩⟩⟩⟩⟩, ⟨⟨rfl, rfl⟩, trivial⟩, rfl, rfl, rfl⟩, ?_⟩; conv => whnf); try (refine hcut.go ?_; conv => whnf))
      refine hdraw_ex [3] ?_ ?_ ?_
      · kernel_rfl
      · refine ⟨?_, trivial⟩
        refine And.intro trivial ?_
        refine And.intro trivial ?_
        refine And.intro ?_ trivial
        conv => whnf
        refine And.intro ?_ ?_
        · conv => whnf
        refine And.intro ?_ trivial
        conv => whnf
        all_goals first | rfl | trace_state
      conv => whnf
      refine hfin_of [(0, some 900), (1, some 901), (2, some 902), (3, some 903), (4, some 904), (5, some 905), (6, some 970)] rfl rfl trivial rfl rfl ⟨⟨rfl, .inl ⟨900, rfl, rfl⟩⟩, ⟨rfl, .inl ⟨901, rfl, rfl⟩⟩, ⟨rfl, .inl ⟨902, rfl, rfl⟩⟩, ⟨rfl, .inl ⟨903, rfl, ?_⟩⟩, ⟨rfl, .inl ⟨904, rfl, rfl⟩⟩, ⟨rfl, .inl ⟨905, rfl, rfl⟩⟩, ⟨rfl, .inl ⟨970, rfl, ?_⟩⟩, trivial⟩
      · exact row_eqs (by rw [List.append_nil, woken, hN, h])
      · exact row_eqs (by rw [show t.config = s.config from k2.config])
end Snd
end Go.HL
