/- The program's structs as Lean structures, and what a reading's shape says of them. -/
import Derived.Test.YtciifagmpoagpaaHL
import Derived.Test.YtciifagmpoagpaaProg
namespace Go.HL
open Go.Proofs
theorem mixed : Try.prog.follows .mixedOrders = true := by kernel_rfl

structure Span where
  lo : Int
  hi : Int
def Span.row (x : Span) : List PV := [pi x.lo, pi x.hi]
def Span.cells (x : Span) : List HV := [.p (pi x.lo), .p (pi x.hi)]
def Span.hv (x : Span) : HV := .agg [.p (pi x.lo), .p (pi x.hi)]
structure Span.Wf (x : Span) : Prop where
  lo : inI x.lo
  hi : inI x.hi
theorem Span.row_len (x : Span) : x.row.length = 2 := rfl
theorem Span.row_map (x : Span) : .agg (x.row.map .p) = x.hv := rfl
theorem shp_Span {n : Nat} {pvs : List PV} (h : shp Try.prog n 73 pvs) : ∃ x : Span, pvs = x.row ∧ x.Wf := by
  have t0 := shp_struct Try.underlying73 h
  obtain ⟨a1, b1, e1, h1, t1⟩ := shpF_cons t0
  obtain ⟨a2, b2, e2, h2, t2⟩ := shpF_cons t1
  obtain ⟨z1, i1, w1⟩ := shp_int Try.underlying3 h1
  obtain ⟨z2, i2, w2⟩ := shp_int Try.underlying3 h2
  have e3 : b2 = [] := t2
  rw [e1, e2, e3, i1, i2]
  exact ⟨⟨z1, z2⟩, rfl, ⟨inI_of w1, inI_of w2⟩⟩
theorem arg_Span (x : Span) : argHV Try.prog 73 x.row = x.hv := by
  unfold argHV
  rw [Try.underlying73]
  rfl

structure Skip where
  stream : Int
  mid : Int
  ordered : Bool
def Skip.row (x : Skip) : List PV := [pi x.stream, pi x.mid, pb x.ordered]
def Skip.cells (x : Skip) : List HV := [.p (pi x.stream), .p (pi x.mid), .p (pb x.ordered)]
def Skip.hv (x : Skip) : HV := .agg [.p (pi x.stream), .p (pi x.mid), .p (pb x.ordered)]
structure Skip.Wf (x : Skip) : Prop where
  stream : inI x.stream
  mid : inI x.mid
theorem Skip.row_len (x : Skip) : x.row.length = 3 := rfl
theorem Skip.row_map (x : Skip) : .agg (x.row.map .p) = x.hv := rfl
theorem shp_Skip {n : Nat} {pvs : List PV} (h : shp Try.prog n 77 pvs) : ∃ x : Skip, pvs = x.row ∧ x.Wf := by
  have t0 := shp_struct Try.underlying77 h
  obtain ⟨a1, b1, e1, h1, t1⟩ := shpF_cons t0
  obtain ⟨a2, b2, e2, h2, t2⟩ := shpF_cons t1
  obtain ⟨a3, b3, e3, h3, t3⟩ := shpF_cons t2
  obtain ⟨z1, i1, w1⟩ := shp_int Try.underlying3 h1
  obtain ⟨z2, i2, w2⟩ := shp_int Try.underlying3 h2
  obtain ⟨z3, i3⟩ := shp_bool Try.underlying4 h3
  have e4 : b3 = [] := t3
  rw [e1, e2, e3, e4, i1, i2, i3]
  exact ⟨⟨z1, z2, z3⟩, rfl, ⟨inI_of w1, inI_of w2⟩⟩
theorem arg_Skip (x : Skip) : argHV Try.prog 77 x.row = x.hv := by
  unfold argHV
  rw [Try.underlying77]
  rfl

structure Chunk where
  kind : Int
  tag : Int
  stream : Int
  mid : Int
  part : Int
  last : Bool
  ordered : Bool
  data : List UInt8
  spans : List Span
  room : Int
  skips : List Skip
def Chunk.row (x : Chunk) : List PV := [pi x.kind, pi x.tag, pi x.stream, pi x.mid, pi x.part, pb x.last, pb x.ordered, .sl 1 (x.data.map bRow), .sl 2 (x.spans.map Span.row), pi x.room, .sl 3 (x.skips.map Skip.row)]
def Chunk.cells (x : Chunk) : List HV := [.p (pi x.kind), .p (pi x.tag), .p (pi x.stream), .p (pi x.mid), .p (pi x.part), .p (pb x.last), .p (pb x.ordered), .p (.sl 1 (x.data.map bRow)), .p (.sl 2 (x.spans.map Span.row)), .p (pi x.room), .p (.sl 3 (x.skips.map Skip.row))]
def Chunk.hv (x : Chunk) : HV := .agg [.p (pi x.kind), .p (pi x.tag), .p (pi x.stream), .p (pi x.mid), .p (pi x.part), .p (pb x.last), .p (pb x.ordered), .p (.sl 1 (x.data.map bRow)), .p (.sl 2 (x.spans.map Span.row)), .p (pi x.room), .p (.sl 3 (x.skips.map Skip.row))]
structure Chunk.Wf (x : Chunk) : Prop where
  kind : inI x.kind
  tag : inI x.tag
  stream : inI x.stream
  mid : inI x.mid
  part : inI x.part
  spans : ∀ y ∈ x.spans, Span.Wf y
  room : inI x.room
  skips : ∀ y ∈ x.skips, Skip.Wf y
theorem Chunk.row_len (x : Chunk) : x.row.length = 11 := rfl
theorem Chunk.row_map (x : Chunk) : .agg (x.row.map .p) = x.hv := rfl
theorem shp_Chunk {n : Nat} {pvs : List PV} (h : shp Try.prog n 41 pvs) : ∃ x : Chunk, pvs = x.row ∧ x.Wf := by
  have t0 := shp_struct Try.underlying41 h
  obtain ⟨a1, b1, e1, h1, t1⟩ := shpF_cons t0
  obtain ⟨a2, b2, e2, h2, t2⟩ := shpF_cons t1
  obtain ⟨a3, b3, e3, h3, t3⟩ := shpF_cons t2
  obtain ⟨a4, b4, e4, h4, t4⟩ := shpF_cons t3
  obtain ⟨a5, b5, e5, h5, t5⟩ := shpF_cons t4
  obtain ⟨a6, b6, e6, h6, t6⟩ := shpF_cons t5
  obtain ⟨a7, b7, e7, h7, t7⟩ := shpF_cons t6
  obtain ⟨a8, b8, e8, h8, t8⟩ := shpF_cons t7
  obtain ⟨a9, b9, e9, h9, t9⟩ := shpF_cons t8
  obtain ⟨a10, b10, e10, h10, t10⟩ := shpF_cons t9
  obtain ⟨a11, b11, e11, h11, t11⟩ := shpF_cons t10
  obtain ⟨z1, i1, w1⟩ := shp_int Try.underlying3 h1
  obtain ⟨z2, i2, w2⟩ := shp_int Try.underlying3 h2
  obtain ⟨z3, i3, w3⟩ := shp_int Try.underlying3 h3
  obtain ⟨z4, i4, w4⟩ := shp_int Try.underlying3 h4
  obtain ⟨z5, i5, w5⟩ := shp_int Try.underlying3 h5
  obtain ⟨z6, i6⟩ := shp_bool Try.underlying4 h6
  obtain ⟨z7, i7⟩ := shp_bool Try.underlying4 h7
  obtain ⟨z8, i8⟩ := shp_bytes Try.underlying26 Try.underlying5 (by kernel_rfl) h8
  obtain ⟨z9, i9, w9⟩ := shp_list Try.underlying38 (c := 2) (by kernel_rfl) (fun r hr => shp_Span hr) h9
  obtain ⟨z10, i10, w10⟩ := shp_int Try.underlying3 h10
  obtain ⟨z11, i11, w11⟩ := shp_list Try.underlying39 (c := 3) (by kernel_rfl) (fun r hr => shp_Skip hr) h11
  have e12 : b11 = [] := t11
  rw [e1, e2, e3, e4, e5, e6, e7, e8, e9, e10, e11, e12, i1, i2, i3, i4, i5, i6, i7, i8, i9, i10, i11]
  exact ⟨⟨z1, z2, z3, z4, z5, z6, z7, z8, z9, z10, z11⟩, rfl, ⟨inI_of w1, inI_of w2, inI_of w3, inI_of w4, inI_of w5, w9, inI_of w10, w11⟩⟩
theorem arg_Chunk (x : Chunk) : argHV Try.prog 41 x.row = x.hv := by
  unfold argHV
  rw [Try.underlying41]
  rfl

structure Message where
  stream : Int
  ordered : Bool
  life : Int
  tries : Int
  data : List UInt8
def Message.row (x : Message) : List PV := [pi x.stream, pb x.ordered, pi x.life, pi x.tries, .sl 1 (x.data.map bRow)]
def Message.cells (x : Message) : List HV := [.p (pi x.stream), .p (pb x.ordered), .p (pi x.life), .p (pi x.tries), .p (.sl 1 (x.data.map bRow))]
def Message.hv (x : Message) : HV := .agg [.p (pi x.stream), .p (pb x.ordered), .p (pi x.life), .p (pi x.tries), .p (.sl 1 (x.data.map bRow))]
structure Message.Wf (x : Message) : Prop where
  stream : inI x.stream
  life : inI x.life
  tries : inI x.tries
theorem Message.row_len (x : Message) : x.row.length = 5 := rfl
theorem Message.row_map (x : Message) : .agg (x.row.map .p) = x.hv := rfl
theorem shp_Message {n : Nat} {pvs : List PV} (h : shp Try.prog n 28 pvs) : ∃ x : Message, pvs = x.row ∧ x.Wf := by
  have t0 := shp_struct Try.underlying28 h
  obtain ⟨a1, b1, e1, h1, t1⟩ := shpF_cons t0
  obtain ⟨a2, b2, e2, h2, t2⟩ := shpF_cons t1
  obtain ⟨a3, b3, e3, h3, t3⟩ := shpF_cons t2
  obtain ⟨a4, b4, e4, h4, t4⟩ := shpF_cons t3
  obtain ⟨a5, b5, e5, h5, t5⟩ := shpF_cons t4
  obtain ⟨z1, i1, w1⟩ := shp_int Try.underlying3 h1
  obtain ⟨z2, i2⟩ := shp_bool Try.underlying4 h2
  obtain ⟨z3, i3, w3⟩ := shp_int Try.underlying3 h3
  obtain ⟨z4, i4, w4⟩ := shp_int Try.underlying3 h4
  obtain ⟨z5, i5⟩ := shp_bytes Try.underlying26 Try.underlying5 (by kernel_rfl) h5
  have e6 : b5 = [] := t5
  rw [e1, e2, e3, e4, e5, e6, i1, i2, i3, i4, i5]
  exact ⟨⟨z1, z2, z3, z4, z5⟩, rfl, ⟨inI_of w1, inI_of w3, inI_of w4⟩⟩
theorem arg_Message (x : Message) : argHV Try.prog 28 x.row = x.hv := by
  unfold argHV
  rw [Try.underlying28]
  rfl

structure Queued where
  id : Int
  mid : Int
  came : Int
  sent : Int
  parts : Int
  message : Message
def Queued.row (x : Queued) : List PV := [pi x.id, pi x.mid, pi x.came, pi x.sent, pi x.parts, pi x.message.stream, pb x.message.ordered, pi x.message.life, pi x.message.tries, .sl 1 (x.message.data.map bRow)]
def Queued.cells (x : Queued) : List HV := [.p (pi x.id), .p (pi x.mid), .p (pi x.came), .p (pi x.sent), .p (pi x.parts), .p (pi x.message.stream), .p (pb x.message.ordered), .p (pi x.message.life), .p (pi x.message.tries), .p (.sl 1 (x.message.data.map bRow))]
def Queued.hv (x : Queued) : HV := .agg [.p (pi x.id), .p (pi x.mid), .p (pi x.came), .p (pi x.sent), .p (pi x.parts), .p (pi x.message.stream), .p (pb x.message.ordered), .p (pi x.message.life), .p (pi x.message.tries), .p (.sl 1 (x.message.data.map bRow))]
structure Queued.Wf (x : Queued) : Prop where
  id : inI x.id
  mid : inI x.mid
  came : inI x.came
  sent : inI x.sent
  parts : inI x.parts
  message : Message.Wf x.message
theorem Queued.row_len (x : Queued) : x.row.length = 10 := rfl
theorem Queued.row_map (x : Queued) : .agg (x.row.map .p) = x.hv := rfl
theorem shp_Queued {n : Nat} {pvs : List PV} (h : shp Try.prog n 30 pvs) : ∃ x : Queued, pvs = x.row ∧ x.Wf := by
  have t0 := shp_struct Try.underlying30 h
  obtain ⟨a1, b1, e1, h1, t1⟩ := shpF_cons t0
  obtain ⟨a2, b2, e2, h2, t2⟩ := shpF_cons t1
  obtain ⟨a3, b3, e3, h3, t3⟩ := shpF_cons t2
  obtain ⟨a4, b4, e4, h4, t4⟩ := shpF_cons t3
  obtain ⟨a5, b5, e5, h5, t5⟩ := shpF_cons t4
  obtain ⟨a6, b6, e6, h6, t6⟩ := shpF_cons t5
  obtain ⟨z1, i1, w1⟩ := shp_int Try.underlying3 h1
  obtain ⟨z2, i2, w2⟩ := shp_int Try.underlying3 h2
  obtain ⟨z3, i3, w3⟩ := shp_int Try.underlying3 h3
  obtain ⟨z4, i4, w4⟩ := shp_int Try.underlying3 h4
  obtain ⟨z5, i5, w5⟩ := shp_int Try.underlying3 h5
  obtain ⟨z6, i6, w6⟩ := shp_Message h6
  have e7 : b6 = [] := t6
  rw [e1, e2, e3, e4, e5, e6, e7, i1, i2, i3, i4, i5, i6]
  exact ⟨⟨z1, z2, z3, z4, z5, z6⟩, rfl, ⟨inI_of w1, inI_of w2, inI_of w3, inI_of w4, inI_of w5, w6⟩⟩
theorem arg_Queued (x : Queued) : argHV Try.prog 30 x.row = x.hv := by
  unfold argHV
  rw [Try.underlying30]
  rfl

structure Sched where
  last : Int
  hand : Int
  had : List Int
def Sched.row (x : Sched) : List PV := [pi x.last, pi x.hand, .sl 1 (x.had.map (fun n => [pi n]))]
def Sched.cells (x : Sched) : List HV := [.p (pi x.last), .p (pi x.hand), .p (.sl 1 (x.had.map (fun n => [pi n])))]
def Sched.hv (x : Sched) : HV := .agg [.p (pi x.last), .p (pi x.hand), .p (.sl 1 (x.had.map (fun n => [pi n])))]
structure Sched.Wf (x : Sched) : Prop where
  last : inI x.last
  hand : inI x.hand
  had : ∀ y ∈ x.had, inI y
theorem Sched.row_len (x : Sched) : x.row.length = 3 := rfl
theorem Sched.row_map (x : Sched) : .agg (x.row.map .p) = x.hv := rfl
theorem shp_Sched {n : Nat} {pvs : List PV} (h : shp Try.prog n 24 pvs) : ∃ x : Sched, pvs = x.row ∧ x.Wf := by
  have t0 := shp_struct Try.underlying24 h
  obtain ⟨a1, b1, e1, h1, t1⟩ := shpF_cons t0
  obtain ⟨a2, b2, e2, h2, t2⟩ := shpF_cons t1
  obtain ⟨a3, b3, e3, h3, t3⟩ := shpF_cons t2
  obtain ⟨z1, i1, w1⟩ := shp_int Try.underlying3 h1
  obtain ⟨z2, i2, w2⟩ := shp_int Try.underlying3 h2
  obtain ⟨z3, i3, w3⟩ := shp_ints Try.underlying22 Try.underlying3 (by kernel_rfl) h3
  have e4 : b3 = [] := t3
  rw [e1, e2, e3, e4, i1, i2, i3]
  exact ⟨⟨z1, z2, z3⟩, rfl, ⟨inI_of w1, inI_of w2, w3⟩⟩
theorem arg_Sched (x : Sched) : argHV Try.prog 24 x.row = x.hv := by
  unfold argHV
  rw [Try.underlying24]
  rfl

structure Sent where
  number : Int
  id : Int
  state : Int
  path : Int
  missed : Int
  times : Int
  came : Int
  life : Int
  tries : Int
  chunk : Chunk
def Sent.row (x : Sent) : List PV := [pi x.number, pi x.id, pi x.state, pi x.path, pi x.missed, pi x.times, pi x.came, pi x.life, pi x.tries, pi x.chunk.kind, pi x.chunk.tag, pi x.chunk.stream, pi x.chunk.mid, pi x.chunk.part, pb x.chunk.last, pb x.chunk.ordered, .sl 1 (x.chunk.data.map bRow), .sl 2 (x.chunk.spans.map Span.row), pi x.chunk.room, .sl 3 (x.chunk.skips.map Skip.row)]
def Sent.cells (x : Sent) : List HV := [.p (pi x.number), .p (pi x.id), .p (pi x.state), .p (pi x.path), .p (pi x.missed), .p (pi x.times), .p (pi x.came), .p (pi x.life), .p (pi x.tries), .p (pi x.chunk.kind), .p (pi x.chunk.tag), .p (pi x.chunk.stream), .p (pi x.chunk.mid), .p (pi x.chunk.part), .p (pb x.chunk.last), .p (pb x.chunk.ordered), .p (.sl 1 (x.chunk.data.map bRow)), .p (.sl 2 (x.chunk.spans.map Span.row)), .p (pi x.chunk.room), .p (.sl 3 (x.chunk.skips.map Skip.row))]
def Sent.hv (x : Sent) : HV := .agg [.p (pi x.number), .p (pi x.id), .p (pi x.state), .p (pi x.path), .p (pi x.missed), .p (pi x.times), .p (pi x.came), .p (pi x.life), .p (pi x.tries), .p (pi x.chunk.kind), .p (pi x.chunk.tag), .p (pi x.chunk.stream), .p (pi x.chunk.mid), .p (pi x.chunk.part), .p (pb x.chunk.last), .p (pb x.chunk.ordered), .p (.sl 1 (x.chunk.data.map bRow)), .p (.sl 2 (x.chunk.spans.map Span.row)), .p (pi x.chunk.room), .p (.sl 3 (x.chunk.skips.map Skip.row))]
structure Sent.Wf (x : Sent) : Prop where
  number : inI x.number
  id : inI x.id
  state : inI x.state
  path : inI x.path
  missed : inI x.missed
  times : inI x.times
  came : inI x.came
  life : inI x.life
  tries : inI x.tries
  chunk : Chunk.Wf x.chunk
theorem Sent.row_len (x : Sent) : x.row.length = 20 := rfl
theorem Sent.row_map (x : Sent) : .agg (x.row.map .p) = x.hv := rfl
theorem shp_Sent {n : Nat} {pvs : List PV} (h : shp Try.prog n 48 pvs) : ∃ x : Sent, pvs = x.row ∧ x.Wf := by
  have t0 := shp_struct Try.underlying48 h
  obtain ⟨a1, b1, e1, h1, t1⟩ := shpF_cons t0
  obtain ⟨a2, b2, e2, h2, t2⟩ := shpF_cons t1
  obtain ⟨a3, b3, e3, h3, t3⟩ := shpF_cons t2
  obtain ⟨a4, b4, e4, h4, t4⟩ := shpF_cons t3
  obtain ⟨a5, b5, e5, h5, t5⟩ := shpF_cons t4
  obtain ⟨a6, b6, e6, h6, t6⟩ := shpF_cons t5
  obtain ⟨a7, b7, e7, h7, t7⟩ := shpF_cons t6
  obtain ⟨a8, b8, e8, h8, t8⟩ := shpF_cons t7
  obtain ⟨a9, b9, e9, h9, t9⟩ := shpF_cons t8
  obtain ⟨a10, b10, e10, h10, t10⟩ := shpF_cons t9
  obtain ⟨z1, i1, w1⟩ := shp_int Try.underlying3 h1
  obtain ⟨z2, i2, w2⟩ := shp_int Try.underlying3 h2
  obtain ⟨z3, i3, w3⟩ := shp_int Try.underlying3 h3
  obtain ⟨z4, i4, w4⟩ := shp_int Try.underlying3 h4
  obtain ⟨z5, i5, w5⟩ := shp_int Try.underlying3 h5
  obtain ⟨z6, i6, w6⟩ := shp_int Try.underlying3 h6
  obtain ⟨z7, i7, w7⟩ := shp_int Try.underlying3 h7
  obtain ⟨z8, i8, w8⟩ := shp_int Try.underlying3 h8
  obtain ⟨z9, i9, w9⟩ := shp_int Try.underlying3 h9
  obtain ⟨z10, i10, w10⟩ := shp_Chunk h10
  have e11 : b10 = [] := t10
  rw [e1, e2, e3, e4, e5, e6, e7, e8, e9, e10, e11, i1, i2, i3, i4, i5, i6, i7, i8, i9, i10]
  exact ⟨⟨z1, z2, z3, z4, z5, z6, z7, z8, z9, z10⟩, rfl, ⟨inI_of w1, inI_of w2, inI_of w3, inI_of w4, inI_of w5, inI_of w6, inI_of w7, inI_of w8, inI_of w9, w10⟩⟩
theorem arg_Sent (x : Sent) : argHV Try.prog 48 x.row = x.hv := by
  unfold argHV
  rw [Try.underlying48]
  rfl

end Go.HL
