/- The program's structs as Lean structures, and what a reading's shape says of them. -/
import Derived.Test.YtdedgpnkepljkaaHL
import Derived.Test.YtdedgpnkepljkaaProg
namespace Go.HL
open Go.Proofs
theorem mixed : Try.prog.follows .mixedOrders = true := by kernel_rfl

structure Span where
  lo : Int
  hi : Int
def Span.row (x : Span) : List PV := [pi x.lo, pi x.hi]
def Span.cells (x : Span) : List HV := [.p (pi x.lo), .p (pi x.hi)]
def Span.hv (x : Span) : HV := .agg [.p (pi x.lo), .p (pi x.hi)]
structure Span.Wf (x : Span) : Prop where
  lo : inI x.lo
  hi : inI x.hi
theorem Span.row_len (x : Span) : x.row.length = 2 := rfl
theorem Span.row_map (x : Span) : .agg (x.row.map .p) = x.hv := rfl
theorem shp_Span {n : Nat} {pvs : List PV} (h : shp Try.prog n 52 pvs) : ∃ x : Span, pvs = x.row ∧ x.Wf := by
  have t0 := shp_struct Try.underlying52 h
  obtain ⟨a1, b1, e1, h1, t1⟩ := shpF_cons t0
  obtain ⟨a2, b2, e2, h2, t2⟩ := shpF_cons t1
  obtain ⟨z1, i1, w1⟩ := shp_int Try.underlying3 h1
  obtain ⟨z2, i2, w2⟩ := shp_int Try.underlying3 h2
  have e3 : b2 = [] := t2
  rw [e1, e2, e3, i1, i2]
  exact ⟨⟨z1, z2⟩, rfl, ⟨inI_of w1, inI_of w2⟩⟩
theorem arg_Span (x : Span) : argHV Try.prog 52 x.row = x.hv := by
  unfold argHV
  rw [Try.underlying52]
  rfl

structure Skip where
  stream : Int
  mid : Int
  ordered : Bool
def Skip.row (x : Skip) : List PV := [pi x.stream, pi x.mid, pb x.ordered]
def Skip.cells (x : Skip) : List HV := [.p (pi x.stream), .p (pi x.mid), .p (pb x.ordered)]
def Skip.hv (x : Skip) : HV := .agg [.p (pi x.stream), .p (pi x.mid), .p (pb x.ordered)]
structure Skip.Wf (x : Skip) : Prop where
  stream : inI x.stream
  mid : inI x.mid
theorem Skip.row_len (x : Skip) : x.row.length = 3 := rfl
theorem Skip.row_map (x : Skip) : .agg (x.row.map .p) = x.hv := rfl
theorem shp_Skip {n : Nat} {pvs : List PV} (h : shp Try.prog n 94 pvs) : ∃ x : Skip, pvs = x.row ∧ x.Wf := by
  have t0 := shp_struct Try.underlying94 h
  obtain ⟨a1, b1, e1, h1, t1⟩ := shpF_cons t0
  obtain ⟨a2, b2, e2, h2, t2⟩ := shpF_cons t1
  obtain ⟨a3, b3, e3, h3, t3⟩ := shpF_cons t2
  obtain ⟨z1, i1, w1⟩ := shp_int Try.underlying3 h1
  obtain ⟨z2, i2, w2⟩ := shp_int Try.underlying3 h2
  obtain ⟨z3, i3⟩ := shp_bool Try.underlying4 h3
  have e4 : b3 = [] := t3
  rw [e1, e2, e3, e4, i1, i2, i3]
  exact ⟨⟨z1, z2, z3⟩, rfl, ⟨inI_of w1, inI_of w2⟩⟩
theorem arg_Skip (x : Skip) : argHV Try.prog 94 x.row = x.hv := by
  unfold argHV
  rw [Try.underlying94]
  rfl

structure Chunk where
  kind : Int
  tag : Int
  stream : Int
  mid : Int
  part : Int
  last : Bool
  ordered : Bool
  data : List UInt8
  spans : List Span
  room : Int
  skips : List Skip
def Chunk.row (x : Chunk) : List PV := [pi x.kind, pi x.tag, pi x.stream, pi x.mid, pi x.part, pb x.last, pb x.ordered, .sl 1 (x.data.map bRow), .sl 2 (x.spans.map Span.row), pi x.room, .sl 3 (x.skips.map Skip.row)]
def Chunk.cells (x : Chunk) : List HV := [.p (pi x.kind), .p (pi x.tag), .p (pi x.stream), .p (pi x.mid), .p (pi x.part), .p (pb x.last), .p (pb x.ordered), .p (.sl 1 (x.data.map bRow)), .p (.sl 2 (x.spans.map Span.row)), .p (pi x.room), .p (.sl 3 (x.skips.map Skip.row))]
def Chunk.hv (x : Chunk) : HV := .agg [.p (pi x.kind), .p (pi x.tag), .p (pi x.stream), .p (pi x.mid), .p (pi x.part), .p (pb x.last), .p (pb x.ordered), .p (.sl 1 (x.data.map bRow)), .p (.sl 2 (x.spans.map Span.row)), .p (pi x.room), .p (.sl 3 (x.skips.map Skip.row))]
structure Chunk.Wf (x : Chunk) : Prop where
  kind : inI x.kind
  tag : inI x.tag
  stream : inI x.stream
  mid : inI x.mid
  part : inI x.part
  spans : ∀ y ∈ x.spans, Span.Wf y
  room : inI x.room
  skips : ∀ y ∈ x.skips, Skip.Wf y
theorem Chunk.row_len (x : Chunk) : x.row.length = 11 := rfl
theorem Chunk.row_map (x : Chunk) : .agg (x.row.map .p) = x.hv := rfl
theorem shp_Chunk {n : Nat} {pvs : List PV} (h : shp Try.prog n 47 pvs) : ∃ x : Chunk, pvs = x.row ∧ x.Wf := by
  have t0 := shp_struct Try.underlying47 h
  obtain ⟨a1, b1, e1, h1, t1⟩ := shpF_cons t0
  obtain ⟨a2, b2, e2, h2, t2⟩ := shpF_cons t1
  obtain ⟨a3, b3, e3, h3, t3⟩ := shpF_cons t2
  obtain ⟨a4, b4, e4, h4, t4⟩ := shpF_cons t3
  obtain ⟨a5, b5, e5, h5, t5⟩ := shpF_cons t4
  obtain ⟨a6, b6, e6, h6, t6⟩ := shpF_cons t5
  obtain ⟨a7, b7, e7, h7, t7⟩ := shpF_cons t6
  obtain ⟨a8, b8, e8, h8, t8⟩ := shpF_cons t7
  obtain ⟨a9, b9, e9, h9, t9⟩ := shpF_cons t8
  obtain ⟨a10, b10, e10, h10, t10⟩ := shpF_cons t9
  obtain ⟨a11, b11, e11, h11, t11⟩ := shpF_cons t10
  obtain ⟨z1, i1, w1⟩ := shp_int Try.underlying3 h1
  obtain ⟨z2, i2, w2⟩ := shp_int Try.underlying3 h2
  obtain ⟨z3, i3, w3⟩ := shp_int Try.underlying3 h3
  obtain ⟨z4, i4, w4⟩ := shp_int Try.underlying3 h4
  obtain ⟨z5, i5, w5⟩ := shp_int Try.underlying3 h5
  obtain ⟨z6, i6⟩ := shp_bool Try.underlying4 h6
  obtain ⟨z7, i7⟩ := shp_bool Try.underlying4 h7
  obtain ⟨z8, i8⟩ := shp_bytes Try.underlying38 Try.underlying5 (by kernel_rfl) h8
  obtain ⟨z9, i9, w9⟩ := shp_list Try.underlying26 (c := 2) (by kernel_rfl) (fun r hr => shp_Span hr) h9
  obtain ⟨z10, i10, w10⟩ := shp_int Try.underlying3 h10
  obtain ⟨z11, i11, w11⟩ := shp_list Try.underlying45 (c := 3) (by kernel_rfl) (fun r hr => shp_Skip hr) h11
  have e12 : b11 = [] := t11
  rw [e1, e2, e3, e4, e5, e6, e7, e8, e9, e10, e11, e12, i1, i2, i3, i4, i5, i6, i7, i8, i9, i10, i11]
  exact ⟨⟨z1, z2, z3, z4, z5, z6, z7, z8, z9, z10, z11⟩, rfl, ⟨inI_of w1, inI_of w2, inI_of w3, inI_of w4, inI_of w5, w9, inI_of w10, w11⟩⟩
theorem arg_Chunk (x : Chunk) : argHV Try.prog 47 x.row = x.hv := by
  unfold argHV
  rw [Try.underlying47]
  rfl

structure Piece where
  number : Int
  chunk : Chunk
def Piece.row (x : Piece) : List PV := [pi x.number, pi x.chunk.kind, pi x.chunk.tag, pi x.chunk.stream, pi x.chunk.mid, pi x.chunk.part, pb x.chunk.last, pb x.chunk.ordered, .sl 1 (x.chunk.data.map bRow), .sl 2 (x.chunk.spans.map Span.row), pi x.chunk.room, .sl 3 (x.chunk.skips.map Skip.row)]
def Piece.cells (x : Piece) : List HV := [.p (pi x.number), .p (pi x.chunk.kind), .p (pi x.chunk.tag), .p (pi x.chunk.stream), .p (pi x.chunk.mid), .p (pi x.chunk.part), .p (pb x.chunk.last), .p (pb x.chunk.ordered), .p (.sl 1 (x.chunk.data.map bRow)), .p (.sl 2 (x.chunk.spans.map Span.row)), .p (pi x.chunk.room), .p (.sl 3 (x.chunk.skips.map Skip.row))]
def Piece.hv (x : Piece) : HV := .agg [.p (pi x.number), .p (pi x.chunk.kind), .p (pi x.chunk.tag), .p (pi x.chunk.stream), .p (pi x.chunk.mid), .p (pi x.chunk.part), .p (pb x.chunk.last), .p (pb x.chunk.ordered), .p (.sl 1 (x.chunk.data.map bRow)), .p (.sl 2 (x.chunk.spans.map Span.row)), .p (pi x.chunk.room), .p (.sl 3 (x.chunk.skips.map Skip.row))]
structure Piece.Wf (x : Piece) : Prop where
  number : inI x.number
  chunk : Chunk.Wf x.chunk
theorem Piece.row_len (x : Piece) : x.row.length = 12 := rfl
theorem Piece.row_map (x : Piece) : .agg (x.row.map .p) = x.hv := rfl
theorem shp_Piece {n : Nat} {pvs : List PV} (h : shp Try.prog n 49 pvs) : ∃ x : Piece, pvs = x.row ∧ x.Wf := by
  have t0 := shp_struct Try.underlying49 h
  obtain ⟨a1, b1, e1, h1, t1⟩ := shpF_cons t0
  obtain ⟨a2, b2, e2, h2, t2⟩ := shpF_cons t1
  obtain ⟨z1, i1, w1⟩ := shp_int Try.underlying3 h1
  obtain ⟨z2, i2, w2⟩ := shp_Chunk h2
  have e3 : b2 = [] := t2
  rw [e1, e2, e3, i1, i2]
  exact ⟨⟨z1, z2⟩, rfl, ⟨inI_of w1, w2⟩⟩
theorem arg_Piece (x : Piece) : argHV Try.prog 49 x.row = x.hv := by
  unfold argHV
  rw [Try.underlying49]
  rfl

end Go.HL
