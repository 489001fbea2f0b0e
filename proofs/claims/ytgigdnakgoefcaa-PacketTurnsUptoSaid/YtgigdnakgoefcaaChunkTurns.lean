/- ChunkTurns: what is sent is read. -/
import Derived.Test.YtgigdnakgoefcaaChunk5
namespace Go.HL
open Go.Proofs
namespace Chk
set_option maxHeartbeats 2000000
set_option maxRecDepth 100000
set_option linter.unusedSimpArgs false
theorem by8_nat {n : Nat} (h : n < 256) : (by8 n).toNat = n := by
  have := by8_toNat (n : Int); omega
theorem by8_int {z : Int} (h0 : 0 ≤ z) (h1 : z < 256) : ((by8 z).toNat : Int) = z := by
  have := by8_toNat z; omega
/-- a chunk without what its kind has not -/
def clean (c : Chunk) : Chunk :=
  if c.kind = 1 then { no with kind := c.kind, tag := c.tag, stream := c.stream, mid := c.mid, part := c.part, last := c.last, ordered := c.ordered, data := c.data }
  else if c.kind = 2 then { no with kind := c.kind, tag := c.tag, room := c.room, spans := c.spans }
  else { no with kind := c.kind, tag := c.tag, skips := c.skips }
theorem clean_kind (c : Chunk) : (clean c).kind = c.kind := by unfold clean; (repeat' split) <;> rfl
theorem clean_tag (c : Chunk) : (clean c).tag = c.tag := by unfold clean; (repeat' split) <;> rfl
theorem clean_wrong (c : Chunk) : wrong (clean c) = wrong c := by
  by_cases k1 : c.kind = 1
  · unfold wrong clean; simp only [k1, if_true]
  · by_cases k2 : c.kind = 2
    · unfold wrong clean; simp only [k1, k2, if_true, if_false]
      simp
    · unfold wrong clean; simp only [k1, k2, if_false]
theorem clean_body (c : Chunk) : body (clean c) = body c := by
  by_cases k1 : c.kind = 1
  · unfold body clean flags; simp only [k1, if_true]
  · by_cases k2 : c.kind = 2
    · unfold body clean flags; simp only [k1, k2, if_true, if_false]
      simp
    · unfold body clean flags; simp only [k1, k2, if_false]
theorem spansOf_bytes : ∀ {l : List Span}, (∀ s ∈ l, (0 ≤ s.lo ∧ s.lo < 65536) ∧ (0 ≤ s.hi ∧ s.hi < 65536)) → spansOf (spanBytes l) = l
  | [], _ => rfl
  | s :: r, h => by
    have h1 := h s (by simp)
    have h2 := spansOf_bytes (l := r) fun x hx => h x (by simp [hx])
    show spansOf (by8 (s.lo / 256) :: by8 s.lo :: by8 (s.hi / 256) :: by8 s.hi :: spanBytes r) = s :: r
    rw [spansOf, h2, dec_enc h1.1.1 h1.1.2, dec_enc h1.2.1 h1.2.2]
theorem skipsRun_bytes : ∀ {l : List Skip}, (∀ s ∈ l, (0 ≤ s.stream ∧ s.stream < 4) ∧ (0 ≤ s.mid ∧ s.mid < 65536)) → skipsRun (skipBytes l) = (l, true)
  | [], _ => rfl
  | s :: r, h => by
    have h1 := h s (by simp)
    have h2 := skipsRun_bytes (l := r) fun x hx => h x (by simp [hx])
    show skipsRun (by8 s.stream :: by8 (if s.ordered then 1 else 0) :: by8 (s.mid / 256) :: by8 s.mid :: skipBytes r) = (s :: r, true)
    rw [skipsRun, h2, dec_enc h1.2.1 h1.2.2, by8_int h1.1.1 (by omega)]
    obtain ⟨st, md, od⟩ := s
    cases od <;> rfl
theorem bodyOf_body {c : Chunk} (h : wrong c = 0) : bodyOf c.kind (body c) = (clean c, true) := by
  have hf := fine h
  by_cases k1 : c.kind = 1
  · obtain ⟨d1, d2, d3, d4, d5⟩ := hf.data k1
    have hb : body c = by8 (c.tag / 256) :: by8 c.tag :: by8 c.stream :: by8 (flags c) :: by8 (c.mid / 256) :: by8 c.mid :: by8 c.part :: c.data := by
      rw [body, if_pos k1]; rfl
    have hfl : (by8 (flags c)).toNat ≤ 3 ∧ ((by8 (flags c)).toNat % 2 != 0) = c.last ∧ ((by8 (flags c)).toNat / 2 * 2 != 0) = c.ordered := by
      unfold flags
      cases c.last <;> cases c.ordered <;> decide
    rw [hb]
    unfold bodyOf
    rw [if_neg (by simp), if_pos k1, if_neg (by simp; omega)]
    show (({ no with kind := c.kind, tag := dec16 (by8 (c.tag / 256)) (by8 c.tag), stream := (by8 c.stream).toNat, last := (by8 (flags c)).toNat % 2 != 0, ordered := (by8 (flags c)).toNat / 2 * 2 != 0, mid := dec16 (by8 (c.mid / 256)) (by8 c.mid), part := (by8 c.part).toNat, data := c.data } : Chunk), true) = _
    rw [dec_enc hf.tag.1 hf.tag.2, dec_enc d2.1 d2.2, by8_int d1.1 (by omega), by8_int d3.1 (by omega), hfl.2.1, hfl.2.2, clean, if_pos k1]
  · by_cases k2 : c.kind = 2
    · obtain ⟨d1, d2, d3⟩ := hf.room k2
      have hb : body c = by8 (c.tag / 256) :: by8 c.tag :: by8 (c.room / 256) :: by8 c.room :: spanBytes c.spans := by
        rw [body, if_neg k1, if_pos k2]; rfl
      rw [hb]
      unfold bodyOf
      rw [if_neg (by simp), if_neg k1, if_pos k2, if_neg (by simp [spanBytes_len]; omega)]
      show (({ no with kind := c.kind, tag := dec16 (by8 (c.tag / 256)) (by8 c.tag), room := dec16 (by8 (c.room / 256)) (by8 c.room), spans := spansOf (spanBytes c.spans) } : Chunk), true) = _
      rw [dec_enc hf.tag.1 hf.tag.2, dec_enc d1.1 d1.2, spansOf_bytes (spans_ok d3 (by decide)), clean, if_neg k1, if_pos k2]
    · obtain ⟨d1, d2⟩ := hf.skips k1 k2
      have hb : body c = by8 (c.tag / 256) :: by8 c.tag :: skipBytes c.skips := by
        rw [body, if_neg k1, if_neg k2]; rfl
      rw [hb]
      unfold bodyOf
      rw [if_neg (by simp), if_neg k1, if_neg k2, if_neg (by simp [skipBytes_len]; omega)]
      show (({ no with kind := c.kind, tag := dec16 (by8 (c.tag / 256)) (by8 c.tag), skips := (skipsRun (skipBytes c.skips)).1 } : Chunk), (skipsRun (skipBytes c.skips)).2) = _
      rw [dec_enc hf.tag.1 hf.tag.2, skipsRun_bytes (skips_ok d2), clean, if_neg k1, if_neg k2]
theorem parse_bytes {c : Chunk} (h : wrong c = 0) (b : List UInt8) : parse (bytes c ++ b) = (clean c, ((bytes c).length : Int), (0 : Int)) := by
  have hf := fine h
  have hl := body_len h
  have hk : ((by8 c.kind).toNat : Int) = c.kind := by8_int (by have := hf.kind; omega) (by have := hf.kind; omega)
  have hn : (by8 ((body c).length : Int)).toNat = (body c).length := by8_nat (by omega)
  have hb : bytes c ++ b = by8 c.kind :: by8 (body c).length :: (body c ++ b) := by rw [bytes, if_pos h]; rfl
  have hs : ((by8 c.kind :: by8 (body c).length :: (body c ++ b)).drop 2).take (by8 ((body c).length : Int)).toNat = body c := by
    rw [hn]; simp
  rw [hb]
  have e0 : (by8 c.kind :: by8 (body c).length :: (body c ++ b))[0]?.getD 0 = by8 c.kind := rfl
  have e1 : (by8 c.kind :: by8 (body c).length :: (body c ++ b))[1]?.getD 0 = by8 (body c).length := rfl
  unfold parse
  rw [e0, e1, hs, if_neg (by simp; omega), if_neg (by have := hf.kind; omega), hk, bodyOf_body h, if_neg (by simp)]
  dsimp only
  rw [if_neg (by rw [clean_wrong, h]; simp), hn, bytes, if_pos h]
  simp; omega
theorem spanBytes_of : ∀ {l : List UInt8}, l.length % 4 = 0 → spanBytes (spansOf l) = l
  | a :: b :: c :: d :: r, h => by
    have := spanBytes_of (l := r) (by simp at h; omega)
    rw [spansOf]
    show enc16 (dec16 a b) ++ enc16 (dec16 c d) ++ spanBytes (spansOf r) = _
    rw [enc_dec, enc_dec, this]; rfl
  | [], _ => rfl
  | [_], h => by simp at h
  | [_, _], h => by simp at h
  | [_, _, _], h => by simp at h
theorem skipBytes_of : ∀ {l : List UInt8}, l.length % 4 = 0 → (skipsRun l).2 = true → skipBytes (skipsRun l).1 = l
  | a :: b :: c :: d :: r, h, h2 => by
    rw [skipsRun] at h2 ⊢
    split at h2
    · cases h2
    · rename_i hb
      have := skipBytes_of (l := r) (by simp at h; omega) h2
      rw [if_neg hb]
      show [by8 (a.toNat : Int), by8 (if (b.toNat == 1) = true then 1 else 0)] ++ enc16 (dec16 c d) ++ skipBytes (skipsRun r).1 = _
      rw [enc_dec, this, by8_of]
      have hb2 : by8 (if (b.toNat == 1) = true then 1 else 0) = b := by
        apply UInt8.toNat_inj.1
        rcases Nat.lt_or_ge b.toNat 1 with h1 | h1
        · have : b.toNat = 0 := by omega
          rw [this]; rfl
        · have : b.toNat = 1 := by omega
          rw [this]; rfl
      rw [hb2]; rfl
  | [], _, _ => rfl
  | [_], h, _ => by simp at h
  | [_, _], h, _ => by simp at h
  | [_, _, _], h, _ => by simp at h
theorem body_of {kind : Int} {s : List UInt8} (h : (bodyOf kind s).2 = true) : body (bodyOf kind s).1 = s ∧ (bodyOf kind s).1.kind = kind := by
  unfold bodyOf at h ⊢
  split at h
  · cases h
  rename_i h2
  rw [if_neg h2]
  by_cases k1 : kind = 1
  · rw [if_pos k1] at h ⊢
    split at h
    · cases h
    rename_i h3
    rw [if_neg h3]
    refine ⟨?_, rfl⟩
    rcases shape7 s with rfl | ⟨x0, rfl⟩ | ⟨x0, x1, rfl⟩ | ⟨x0, x1, x2, rfl⟩ | ⟨x0, x1, x2, x3, rfl⟩ | ⟨x0, x1, x2, x3, x4, rfl⟩ | ⟨x0, x1, x2, x3, x4, x5, rfl⟩ | ⟨x0, x1, x2, x3, x4, x5, x6, r, rfl⟩
    case inr.inr.inr.inr.inr.inr.inr =>
      have hx : x3.toNat ≤ 3 := by simp at h3; omega
      rw [body, if_pos k1]
      show enc16 (dec16 x0 x1) ++ [by8 (x2.toNat : Int), by8 ((if (x3.toNat % 2 != 0) = true then 1 else 0) + (if (x3.toNat / 2 * 2 != 0) = true then 2 else 0))] ++ enc16 (dec16 x4 x5) ++ [by8 (x6.toNat : Int)] ++ r = _
      have hfl : by8 ((if (x3.toNat % 2 != 0) = true then 1 else 0) + (if (x3.toNat / 2 * 2 != 0) = true then 2 else 0)) = x3 := by
        apply UInt8.toNat_inj.1
        generalize x3.toNat = n at hx
        match n, hx with
        | 0, _ => decide
        | 1, _ => decide
        | 2, _ => decide
        | 3, _ => decide
      rw [enc_dec, enc_dec, by8_of, by8_of, hfl]; rfl
    all_goals (exfalso; simp at h3)
  · rw [if_neg k1] at h ⊢
    match s, h2 with
    | a :: b :: r, _ =>
      by_cases k2 : kind = 2
      · rw [if_pos k2] at h ⊢
        split at h
        · cases h
        rename_i h3
        rw [if_neg h3]
        refine ⟨?_, rfl⟩
        match r, h3 with
        | c :: d :: r, h3 =>
          rw [body, if_neg k1, if_pos k2]
          show enc16 (dec16 a b) ++ enc16 (dec16 c d) ++ spanBytes (spansOf r) = _
          rw [enc_dec, enc_dec, spanBytes_of (by simp at h3; omega)]; rfl
        | [], h3 => simp at h3
        | [_], h3 => simp at h3
      · rw [if_neg k2] at h ⊢
        split at h
        · cases h
        rename_i h3
        rw [if_neg h3]
        refine ⟨?_, rfl⟩
        rw [body, if_neg k1, if_neg k2]
        show enc16 (dec16 a b) ++ skipBytes (skipsRun r).1 = _
        rw [enc_dec, skipBytes_of (l := r) (by simp at h3; omega) h]; rfl
    | [], h2 => simp at h2
    | [_], h2 => simp at h2
theorem parse_bad {b : List UInt8} (h : (parse b).2.2 ≠ 0) : (parse b).2.1 = 0 ∧ (parse b).1.kind = 0 := by
  unfold parse at h ⊢
  (repeat' split at h) <;> first | (exfalso; exact h rfl) | skip
  all_goals (repeat' split) <;> first | exact ⟨rfl, rfl⟩ | contradiction
theorem parse_good {b : List UInt8} (h : (parse b).2.2 = 0) : wrong (parse b).1 = 0 ∧ 0 ≤ (parse b).2.1 ∧ (parse b).2.1 ≤ b.length ∧ bytes (parse b).1 = b.take (parse b).2.1.toNat := by
  by_cases h1 : b.length < 2 ∨ b.length < 2 + (b[1]?.getD 0).toNat
  · rw [parse, if_pos h1] at h; cases h
  by_cases h2 : (b[0]?.getD 0).toNat < 1 ∨ (b[0]?.getD 0).toNat > 3
  · rw [parse, if_neg h1, if_pos h2] at h; cases h
  generalize hs : (b.drop 2).take (b[1]?.getD 0).toNat = s
  cases h3 : (bodyOf (b[0]?.getD 0).toNat s).2 with
  | false => rw [parse, if_neg h1, if_neg h2, hs, if_pos h3] at h; cases h
  | true =>
    by_cases h4 : wrong (bodyOf (b[0]?.getD 0).toNat s).1 = 0
    · have hp : parse b = ((bodyOf (b[0]?.getD 0).toNat s).1, 2 + ((b[1]?.getD 0).toNat : Int), (0 : Int)) := by
        rw [parse, if_neg h1, if_neg h2, hs, if_neg (by rw [h3]; simp), if_neg (fun h => h h4)]
      obtain ⟨g1, g2⟩ := body_of h3
      have hlen : s.length = (b[1]?.getD 0).toNat := by rw [← hs]; simp; omega
      rw [hp]
      refine ⟨h4, by dsimp only; omega, by dsimp only; omega, ?_⟩
      dsimp only
      rw [bytes, if_pos h4, g1, g2, hlen, by8_of, by8_of]
      have e2 : ∀ m : Nat, (2 + (m : Int)).toNat = m + 1 + 1 := by intro m; omega
      rw [e2]
      match b, h1, hs with
      | x :: y :: r, h1, hs => 
        rw [← hs]; rfl
      | [], h1, _ => simp at h1
      | [_], h1, _ => simp at h1
    · rw [parse, if_neg h1, if_neg h2, hs, if_neg (by rw [h3]; simp), if_pos h4] at h
      exact absurd h h4
/-- the chunk of which 'alive' asks -/
def ab : Chunk := ⟨1, 300, 2, 7, 1, true, false, [97, 98], [], 0, []⟩
theorem ab_wrong : wrong ab = 0 := by decide
theorem ab_parse : parse (bytes ab) = (ab, 11, 0) := by
  have := parse_bytes ab_wrong []
  rw [List.append_nil] at this
  rw [this]
  rfl
theorem spec_alive2 : FunOK Try.prog 16 [] noHeap (hbool true) noHeap := by
  refine funOK_pure mixed Try.func16 (by decide) ?_
  conv => whnf
  refine hobl_intro (by simp) ?_; conv => whnf
  refine hcall_pure ?_; conv => whnf
  refine ⟨_, spec_bytes ab (by decide) (by decide), rfl, ?_⟩; conv => whnf
  refine hcall_pure ?_; conv => whnf
  refine ⟨_, spec_parse (bytes ab) (by decide), rfl, ?_⟩
  rw [ab_parse, ab_wrong]
  conv => whnf
  (repeat' (first | (refine hwrap_raw ?_; conv => whnf) | (refine hobl_intro ?_ ?_; (first | kernel_rfl | decide); conv => whnf) | (refine hdraw_intro ?_ ?_; kernel_rfl; conv => whnf) | (refine hcut.go ?_; conv => whnf) | (refine hcall_lend ?_; (conv => whnf); refine ⟨_, spec_size 2, rfl, ?_⟩; conv => whnf) | (refine hcall_lend ?_; (conv => whnf); refine ⟨_, spec_same ab (by decide) (by decide), rfl, ?_⟩; conv => whnf) | (refine hcall_lend ?_; (conv => whnf); refine ⟨_, spec_wrong ab (by decide) (by decide), rfl, ?_⟩; conv => whnf) | (refine hrow_intro ?_ rfl ?_; (first | decide | kernel_rfl | omega); conv => whnf) | (refine hif_true ?_ ?_; · kernel_rfl; conv => whnf) | (refine hif_false ?_ ?_; · kernel_rfl; conv => whnf)))
  all_goals kernel_rfl

theorem turns (c : Chunk) (b : List UInt8) (h9 : c.spans.length < 2 ^ 39) (h8 : c.skips.length < 2 ^ 39) (hb : b.length < 2 ^ 38) : FunOK Try.prog 4 [c.hv, byts b] noHeap (hbool true) noHeap := by
  refine funOK_pure mixed Try.func4 (by decide) ?_
  have hlen : ∀ l : List UInt8, (l.map bRow).length = l.length := fun l => by simp
  conv => whnf
  refine hcall_lend ?_; conv => whnf
  refine ⟨_, spec_alive2, rfl, ?_⟩; conv => whnf
  refine hcut.meet PUnit (fun _ => hs 114 [(1, byts b)] []) ?_ ?_
  · conv => whnf
    refine hcall_pure ?_; conv => whnf
    refine ⟨_, spec_bytes c (by omega) (by omega), rfl, ?_⟩; conv => whnf
    refine hif_intro (fun k => ?_) (fun k => ?_)
    · have k : wrong c = 0 := by simpa using k
      have hbl : (bytes c).length ≤ 40 := by have := body_len k; rw [bytes, if_pos k]; simp; omega
      have hp := parse_bytes k b
      have hcl : (clean c).spans.length < 2 ^ 39 ∧ (clean c).skips.length < 2 ^ 39 := by
        unfold clean; (repeat' split) <;> constructor <;> first | (simp [no]; done) | (dsimp only [no]; omega)
      have hbc : bytes (clean c) = bytes c := by rw [bytes, bytes, clean_wrong, clean_body, clean_kind]
      conv => whnf
      refine hobl_intro (c := (([] : List (List PV)).length + ((bytes c).map bRow).length) * 1 ≤ 140737488355328) (by simp; omega) ?_; conv => whnf
      refine hobl_intro (c := (((bytes c).map bRow).length + (b.map bRow).length) * 1 ≤ 140737488355328) (by simp; omega) ?_; conv => whnf
      refine hcall_pure ?_; conv => whnf
      have e : ([] ++ (bytes c).map bRow) ++ b.map bRow = (bytes c ++ b).map bRow := by simp
      have hsp : FunOK Try.prog 13 [.p (.sl 1 ((bytes c ++ b).map bRow))] noHeap (.tup [(parse (bytes c ++ b)).1.hv, i64 (parse (bytes c ++ b)).2.1, i64 (parse (bytes c ++ b)).2.2]) noHeap := spec_parse (bytes c ++ b) (by simp; omega)
      rw [← e, hp] at hsp
      refine ⟨_, hsp, rfl, ?_⟩
      conv => whnf
      refine hcall_pure ?_; conv => whnf
      refine ⟨_, spec_bytes (clean c) (by omega) (by omega), rfl, ?_⟩
      rw [hbc, clean_wrong, k]
      conv => whnf
      refine hif_false ?_ ?_
      · rw [hlen]; simp
      conv => whnf
      refine hbytes_intro rfl ?_; conv => whnf
      refine hbytes_intro rfl ?_; conv => whnf
      refine hif_false ?_ ?_
      · simp
      conv => whnf
      refine hif_false ?_ ?_
      · rw [clean_kind]; simp
      conv => whnf
      refine hif_false ?_ ?_
      · rw [clean_tag]; simp
      conv => whnf
      exact ⟨⟨⟩, hle_hs [] rfl rfl rfl rfl ⟨⟨rfl, rfl⟩, trivial⟩ trivial⟩
    · conv => whnf
      exact ⟨⟨⟩, hle_hs [] rfl rfl rfl rfl ⟨⟨rfl, rfl⟩, trivial⟩ trivial⟩
  rintro ⟨⟩
  conv => whnf
  refine hcall_pure ?_; conv => whnf
  refine ⟨_, spec_parse b (by omega), rfl, ?_⟩
  obtain ⟨p1, p2⟩ := parse_len b
  have hbad := parse_bad (b := b)
  have hgood := parse_good (b := b)
  generalize parse b = p at p1 p2 hbad hgood ⊢
  obtain ⟨d, n, e⟩ := p
  dsimp only at p1 p2 hbad hgood
  conv => whnf
  refine hif_intro (fun k => ?_) (fun k => ?_)
  · have k : e ≠ 0 := by simpa using k
    obtain ⟨q1, q2⟩ := hbad k
    conv => whnf
    refine hif_true ?_ ?_
    · rw [q1]; rfl
    conv => whnf
    rw [q2]; rfl
  · have k : e = 0 := by simpa using k
    obtain ⟨q1, q2, q3, q4⟩ := hgood k
    conv => whnf
    refine hcall_pure ?_; conv => whnf
    refine ⟨_, spec_bytes d (by omega) (by omega), rfl, ?_⟩
    rw [q1, q4]
    conv => whnf
    refine hif_true ?_ ?_
    · exact decide_eq_true q2
    conv => whnf
    refine hif_true ?_ ?_
    · exact decide_eq_true (by rw [hlen]; exact q3)
    conv => whnf
    refine hbytes_intro rfl ?_; conv => whnf
    refine hobl_intro ⟨by omega, q2, by rw [hlen]; exact q3⟩ ?_; conv => whnf
    refine hsub_at (l := b) (by show 0 + (n - 0).toNat ≤ b.length; omega) ?_
    conv => whnf
    refine hbytes_intro rfl ?_; conv => whnf
    refine hdraw_intro ?_ ?_
    · kernel_rfl
    conv => whnf
    have e2 : (n - 0).toNat = n.toNat := by omega
    simp [e2]
end Chk
end Go.HL
