/- The program's structs as Lean structures, and what a reading's shape says of them. -/
import Derived.Test.YticmofoeecjnhaaHL
import Derived.Test.YticmofoeecjnhaaProg
namespace Go.HL
open Go.Proofs
theorem mixed : Try.prog.follows .mixedOrders = true := by kernel_rfl

structure Span where
  lo : Int
  hi : Int
def Span.row (x : Span) : List PV := [pi x.lo, pi x.hi]
def Span.cells (x : Span) : List HV := [.p (pi x.lo), .p (pi x.hi)]
def Span.hv (x : Span) : HV := .agg [.p (pi x.lo), .p (pi x.hi)]
structure Span.Wf (x : Span) : Prop where
  lo : inI x.lo
  hi : inI x.hi
theorem Span.row_len (x : Span) : x.row.length = 2 := rfl
theorem Span.row_map (x : Span) : .agg (x.row.map .p) = x.hv := rfl
theorem shp_Span {n : Nat} {pvs : List PV} (h : shp Try.prog n 83 pvs) : ∃ x : Span, pvs = x.row ∧ x.Wf := by
  have t0 := shp_struct Try.underlying83 h
  obtain ⟨a1, b1, e1, h1, t1⟩ := shpF_cons t0
  obtain ⟨a2, b2, e2, h2, t2⟩ := shpF_cons t1
  obtain ⟨z1, i1, w1⟩ := shp_int Try.underlying3 h1
  obtain ⟨z2, i2, w2⟩ := shp_int Try.underlying3 h2
  have e3 : b2 = [] := t2
  rw [e1, e2, e3, i1, i2]
  exact ⟨⟨z1, z2⟩, rfl, ⟨inI_of w1, inI_of w2⟩⟩
theorem arg_Span (x : Span) : argHV Try.prog 83 x.row = x.hv := by
  unfold argHV
  rw [Try.underlying83]
  rfl

structure Skip where
  stream : Int
  mid : Int
  ordered : Bool
def Skip.row (x : Skip) : List PV := [pi x.stream, pi x.mid, pb x.ordered]
def Skip.cells (x : Skip) : List HV := [.p (pi x.stream), .p (pi x.mid), .p (pb x.ordered)]
def Skip.hv (x : Skip) : HV := .agg [.p (pi x.stream), .p (pi x.mid), .p (pb x.ordered)]
structure Skip.Wf (x : Skip) : Prop where
  stream : inI x.stream
  mid : inI x.mid
theorem Skip.row_len (x : Skip) : x.row.length = 3 := rfl
theorem Skip.row_map (x : Skip) : .agg (x.row.map .p) = x.hv := rfl
theorem shp_Skip {n : Nat} {pvs : List PV} (h : shp Try.prog n 100 pvs) : ∃ x : Skip, pvs = x.row ∧ x.Wf := by
  have t0 := shp_struct Try.underlying100 h
  obtain ⟨a1, b1, e1, h1, t1⟩ := shpF_cons t0
  obtain ⟨a2, b2, e2, h2, t2⟩ := shpF_cons t1
  obtain ⟨a3, b3, e3, h3, t3⟩ := shpF_cons t2
  obtain ⟨z1, i1, w1⟩ := shp_int Try.underlying3 h1
  obtain ⟨z2, i2, w2⟩ := shp_int Try.underlying3 h2
  obtain ⟨z3, i3⟩ := shp_bool Try.underlying4 h3
  have e4 : b3 = [] := t3
  rw [e1, e2, e3, e4, i1, i2, i3]
  exact ⟨⟨z1, z2, z3⟩, rfl, ⟨inI_of w1, inI_of w2⟩⟩
theorem arg_Skip (x : Skip) : argHV Try.prog 100 x.row = x.hv := by
  unfold argHV
  rw [Try.underlying100]
  rfl

structure Chunk where
  kind : Int
  tag : Int
  stream : Int
  mid : Int
  part : Int
  last : Bool
  ordered : Bool
  data : List UInt8
  spans : List Span
  room : Int
  skips : List Skip
def Chunk.row (x : Chunk) : List PV := [pi x.kind, pi x.tag, pi x.stream, pi x.mid, pi x.part, pb x.last, pb x.ordered, .sl 1 (x.data.map bRow), .sl 2 (x.spans.map Span.row), pi x.room, .sl 3 (x.skips.map Skip.row)]
def Chunk.cells (x : Chunk) : List HV := [.p (pi x.kind), .p (pi x.tag), .p (pi x.stream), .p (pi x.mid), .p (pi x.part), .p (pb x.last), .p (pb x.ordered), .p (.sl 1 (x.data.map bRow)), .p (.sl 2 (x.spans.map Span.row)), .p (pi x.room), .p (.sl 3 (x.skips.map Skip.row))]
def Chunk.hv (x : Chunk) : HV := .agg [.p (pi x.kind), .p (pi x.tag), .p (pi x.stream), .p (pi x.mid), .p (pi x.part), .p (pb x.last), .p (pb x.ordered), .p (.sl 1 (x.data.map bRow)), .p (.sl 2 (x.spans.map Span.row)), .p (pi x.room), .p (.sl 3 (x.skips.map Skip.row))]
structure Chunk.Wf (x : Chunk) : Prop where
  kind : inI x.kind
  tag : inI x.tag
  stream : inI x.stream
  mid : inI x.mid
  part : inI x.part
  spans : ∀ y ∈ x.spans, Span.Wf y
  room : inI x.room
  skips : ∀ y ∈ x.skips, Skip.Wf y
theorem Chunk.row_len (x : Chunk) : x.row.length = 11 := rfl
theorem Chunk.row_map (x : Chunk) : .agg (x.row.map .p) = x.hv := rfl
theorem shp_Chunk {n : Nat} {pvs : List PV} (h : shp Try.prog n 29 pvs) : ∃ x : Chunk, pvs = x.row ∧ x.Wf := by
  have t0 := shp_struct Try.underlying29 h
  obtain ⟨a1, b1, e1, h1, t1⟩ := shpF_cons t0
  obtain ⟨a2, b2, e2, h2, t2⟩ := shpF_cons t1
  obtain ⟨a3, b3, e3, h3, t3⟩ := shpF_cons t2
  obtain ⟨a4, b4, e4, h4, t4⟩ := shpF_cons t3
  obtain ⟨a5, b5, e5, h5, t5⟩ := shpF_cons t4
  obtain ⟨a6, b6, e6, h6, t6⟩ := shpF_cons t5
  obtain ⟨a7, b7, e7, h7, t7⟩ := shpF_cons t6
  obtain ⟨a8, b8, e8, h8, t8⟩ := shpF_cons t7
  obtain ⟨a9, b9, e9, h9, t9⟩ := shpF_cons t8
  obtain ⟨a10, b10, e10, h10, t10⟩ := shpF_cons t9
  obtain ⟨a11, b11, e11, h11, t11⟩ := shpF_cons t10
  obtain ⟨z1, i1, w1⟩ := shp_int Try.underlying3 h1
  obtain ⟨z2, i2, w2⟩ := shp_int Try.underlying3 h2
  obtain ⟨z3, i3, w3⟩ := shp_int Try.underlying3 h3
  obtain ⟨z4, i4, w4⟩ := shp_int Try.underlying3 h4
  obtain ⟨z5, i5, w5⟩ := shp_int Try.underlying3 h5
  obtain ⟨z6, i6⟩ := shp_bool Try.underlying4 h6
  obtain ⟨z7, i7⟩ := shp_bool Try.underlying4 h7
  obtain ⟨z8, i8⟩ := shp_bytes Try.underlying25 Try.underlying5 (by kernel_rfl) h8
  obtain ⟨z9, i9, w9⟩ := shp_list Try.underlying26 (c := 2) (by kernel_rfl) (fun r hr => shp_Span hr) h9
  obtain ⟨z10, i10, w10⟩ := shp_int Try.underlying3 h10
  obtain ⟨z11, i11, w11⟩ := shp_list Try.underlying27 (c := 3) (by kernel_rfl) (fun r hr => shp_Skip hr) h11
  have e12 : b11 = [] := t11
  rw [e1, e2, e3, e4, e5, e6, e7, e8, e9, e10, e11, e12, i1, i2, i3, i4, i5, i6, i7, i8, i9, i10, i11]
  exact ⟨⟨z1, z2, z3, z4, z5, z6, z7, z8, z9, z10, z11⟩, rfl, ⟨inI_of w1, inI_of w2, inI_of w3, inI_of w4, inI_of w5, w9, inI_of w10, w11⟩⟩
theorem arg_Chunk (x : Chunk) : argHV Try.prog 29 x.row = x.hv := by
  unfold argHV
  rw [Try.underlying29]
  rfl

structure Config where
  streams : Int
  part : Int
  packet : Int
  paths : Int
  turns : Int
  waiting : Int
  first : Int
def Config.row (x : Config) : List PV := [pi x.streams, pi x.part, pi x.packet, pi x.paths, pi x.turns, pi x.waiting, pi x.first]
def Config.cells (x : Config) : List HV := [.p (pi x.streams), .p (pi x.part), .p (pi x.packet), .p (pi x.paths), .p (pi x.turns), .p (pi x.waiting), .p (pi x.first)]
def Config.hv (x : Config) : HV := .agg [.p (pi x.streams), .p (pi x.part), .p (pi x.packet), .p (pi x.paths), .p (pi x.turns), .p (pi x.waiting), .p (pi x.first)]
structure Config.Wf (x : Config) : Prop where
  streams : inI x.streams
  part : inI x.part
  packet : inI x.packet
  paths : inI x.paths
  turns : inI x.turns
  waiting : inI x.waiting
  first : inI x.first
theorem Config.row_len (x : Config) : x.row.length = 7 := rfl
theorem Config.row_map (x : Config) : .agg (x.row.map .p) = x.hv := rfl
theorem shp_Config {n : Nat} {pvs : List PV} (h : shp Try.prog n 23 pvs) : ∃ x : Config, pvs = x.row ∧ x.Wf := by
  have t0 := shp_struct Try.underlying23 h
  obtain ⟨a1, b1, e1, h1, t1⟩ := shpF_cons t0
  obtain ⟨a2, b2, e2, h2, t2⟩ := shpF_cons t1
  obtain ⟨a3, b3, e3, h3, t3⟩ := shpF_cons t2
  obtain ⟨a4, b4, e4, h4, t4⟩ := shpF_cons t3
  obtain ⟨a5, b5, e5, h5, t5⟩ := shpF_cons t4
  obtain ⟨a6, b6, e6, h6, t6⟩ := shpF_cons t5
  obtain ⟨a7, b7, e7, h7, t7⟩ := shpF_cons t6
  obtain ⟨z1, i1, w1⟩ := shp_int Try.underlying3 h1
  obtain ⟨z2, i2, w2⟩ := shp_int Try.underlying3 h2
  obtain ⟨z3, i3, w3⟩ := shp_int Try.underlying3 h3
  obtain ⟨z4, i4, w4⟩ := shp_int Try.underlying3 h4
  obtain ⟨z5, i5, w5⟩ := shp_int Try.underlying3 h5
  obtain ⟨z6, i6, w6⟩ := shp_int Try.underlying3 h6
  obtain ⟨z7, i7, w7⟩ := shp_int Try.underlying3 h7
  have e8 : b7 = [] := t7
  rw [e1, e2, e3, e4, e5, e6, e7, e8, i1, i2, i3, i4, i5, i6, i7]
  exact ⟨⟨z1, z2, z3, z4, z5, z6, z7⟩, rfl, ⟨inI_of w1, inI_of w2, inI_of w3, inI_of w4, inI_of w5, inI_of w6, inI_of w7⟩⟩
theorem arg_Config (x : Config) : argHV Try.prog 23 x.row = x.hv := by
  unfold argHV
  rw [Try.underlying23]
  rfl

structure Message where
  stream : Int
  ordered : Bool
  life : Int
  tries : Int
  data : List UInt8
def Message.row (x : Message) : List PV := [pi x.stream, pb x.ordered, pi x.life, pi x.tries, .sl 1 (x.data.map bRow)]
def Message.cells (x : Message) : List HV := [.p (pi x.stream), .p (pb x.ordered), .p (pi x.life), .p (pi x.tries), .p (.sl 1 (x.data.map bRow))]
def Message.hv (x : Message) : HV := .agg [.p (pi x.stream), .p (pb x.ordered), .p (pi x.life), .p (pi x.tries), .p (.sl 1 (x.data.map bRow))]
structure Message.Wf (x : Message) : Prop where
  stream : inI x.stream
  life : inI x.life
  tries : inI x.tries
theorem Message.row_len (x : Message) : x.row.length = 5 := rfl
theorem Message.row_map (x : Message) : .agg (x.row.map .p) = x.hv := rfl
theorem shp_Message {n : Nat} {pvs : List PV} (h : shp Try.prog n 68 pvs) : ∃ x : Message, pvs = x.row ∧ x.Wf := by
  have t0 := shp_struct Try.underlying68 h
  obtain ⟨a1, b1, e1, h1, t1⟩ := shpF_cons t0
  obtain ⟨a2, b2, e2, h2, t2⟩ := shpF_cons t1
  obtain ⟨a3, b3, e3, h3, t3⟩ := shpF_cons t2
  obtain ⟨a4, b4, e4, h4, t4⟩ := shpF_cons t3
  obtain ⟨a5, b5, e5, h5, t5⟩ := shpF_cons t4
  obtain ⟨z1, i1, w1⟩ := shp_int Try.underlying3 h1
  obtain ⟨z2, i2⟩ := shp_bool Try.underlying4 h2
  obtain ⟨z3, i3, w3⟩ := shp_int Try.underlying3 h3
  obtain ⟨z4, i4, w4⟩ := shp_int Try.underlying3 h4
  obtain ⟨z5, i5⟩ := shp_bytes Try.underlying25 Try.underlying5 (by kernel_rfl) h5
  have e6 : b5 = [] := t5
  rw [e1, e2, e3, e4, e5, e6, i1, i2, i3, i4, i5]
  exact ⟨⟨z1, z2, z3, z4, z5⟩, rfl, ⟨inI_of w1, inI_of w3, inI_of w4⟩⟩
theorem arg_Message (x : Message) : argHV Try.prog 68 x.row = x.hv := by
  unfold argHV
  rw [Try.underlying68]
  rfl

structure Queued where
  id : Int
  mid : Int
  came : Int
  sent : Int
  parts : Int
  message : Message
def Queued.row (x : Queued) : List PV := [pi x.id, pi x.mid, pi x.came, pi x.sent, pi x.parts, pi x.message.stream, pb x.message.ordered, pi x.message.life, pi x.message.tries, .sl 1 (x.message.data.map bRow)]
def Queued.cells (x : Queued) : List HV := [.p (pi x.id), .p (pi x.mid), .p (pi x.came), .p (pi x.sent), .p (pi x.parts), .p (pi x.message.stream), .p (pb x.message.ordered), .p (pi x.message.life), .p (pi x.message.tries), .p (.sl 1 (x.message.data.map bRow))]
def Queued.hv (x : Queued) : HV := .agg [.p (pi x.id), .p (pi x.mid), .p (pi x.came), .p (pi x.sent), .p (pi x.parts), .p (pi x.message.stream), .p (pb x.message.ordered), .p (pi x.message.life), .p (pi x.message.tries), .p (.sl 1 (x.message.data.map bRow))]
structure Queued.Wf (x : Queued) : Prop where
  id : inI x.id
  mid : inI x.mid
  came : inI x.came
  sent : inI x.sent
  parts : inI x.parts
  message : Message.Wf x.message
theorem Queued.row_len (x : Queued) : x.row.length = 10 := rfl
theorem Queued.row_map (x : Queued) : .agg (x.row.map .p) = x.hv := rfl
theorem shp_Queued {n : Nat} {pvs : List PV} (h : shp Try.prog n 112 pvs) : ∃ x : Queued, pvs = x.row ∧ x.Wf := by
  have t0 := shp_struct Try.underlying112 h
  obtain ⟨a1, b1, e1, h1, t1⟩ := shpF_cons t0
  obtain ⟨a2, b2, e2, h2, t2⟩ := shpF_cons t1
  obtain ⟨a3, b3, e3, h3, t3⟩ := shpF_cons t2
  obtain ⟨a4, b4, e4, h4, t4⟩ := shpF_cons t3
  obtain ⟨a5, b5, e5, h5, t5⟩ := shpF_cons t4
  obtain ⟨a6, b6, e6, h6, t6⟩ := shpF_cons t5
  obtain ⟨z1, i1, w1⟩ := shp_int Try.underlying3 h1
  obtain ⟨z2, i2, w2⟩ := shp_int Try.underlying3 h2
  obtain ⟨z3, i3, w3⟩ := shp_int Try.underlying3 h3
  obtain ⟨z4, i4, w4⟩ := shp_int Try.underlying3 h4
  obtain ⟨z5, i5, w5⟩ := shp_int Try.underlying3 h5
  obtain ⟨z6, i6, w6⟩ := shp_Message h6
  have e7 : b6 = [] := t6
  rw [e1, e2, e3, e4, e5, e6, e7, i1, i2, i3, i4, i5, i6]
  exact ⟨⟨z1, z2, z3, z4, z5, z6⟩, rfl, ⟨inI_of w1, inI_of w2, inI_of w3, inI_of w4, inI_of w5, w6⟩⟩
theorem arg_Queued (x : Queued) : argHV Try.prog 112 x.row = x.hv := by
  unfold argHV
  rw [Try.underlying112]
  rfl

structure Sched where
  last : Int
  hand : Int
  had : List Int
def Sched.row (x : Sched) : List PV := [pi x.last, pi x.hand, .sl 1 (x.had.map (fun n => [pi n]))]
def Sched.cells (x : Sched) : List HV := [.p (pi x.last), .p (pi x.hand), .p (.sl 1 (x.had.map (fun n => [pi n])))]
def Sched.hv (x : Sched) : HV := .agg [.p (pi x.last), .p (pi x.hand), .p (.sl 1 (x.had.map (fun n => [pi n])))]
structure Sched.Wf (x : Sched) : Prop where
  last : inI x.last
  hand : inI x.hand
  had : ∀ y ∈ x.had, inI y
theorem Sched.row_len (x : Sched) : x.row.length = 3 := rfl
theorem Sched.row_map (x : Sched) : .agg (x.row.map .p) = x.hv := rfl
theorem shp_Sched {n : Nat} {pvs : List PV} (h : shp Try.prog n 58 pvs) : ∃ x : Sched, pvs = x.row ∧ x.Wf := by
  have t0 := shp_struct Try.underlying58 h
  obtain ⟨a1, b1, e1, h1, t1⟩ := shpF_cons t0
  obtain ⟨a2, b2, e2, h2, t2⟩ := shpF_cons t1
  obtain ⟨a3, b3, e3, h3, t3⟩ := shpF_cons t2
  obtain ⟨z1, i1, w1⟩ := shp_int Try.underlying3 h1
  obtain ⟨z2, i2, w2⟩ := shp_int Try.underlying3 h2
  obtain ⟨z3, i3, w3⟩ := shp_ints Try.underlying32 Try.underlying3 (by kernel_rfl) h3
  have e4 : b3 = [] := t3
  rw [e1, e2, e3, e4, i1, i2, i3]
  exact ⟨⟨z1, z2, z3⟩, rfl, ⟨inI_of w1, inI_of w2, w3⟩⟩
theorem arg_Sched (x : Sched) : argHV Try.prog 58 x.row = x.hv := by
  unfold argHV
  rw [Try.underlying58]
  rfl

structure Sent where
  number : Int
  id : Int
  state : Int
  path : Int
  missed : Int
  times : Int
  came : Int
  life : Int
  tries : Int
  chunk : Chunk
def Sent.row (x : Sent) : List PV := [pi x.number, pi x.id, pi x.state, pi x.path, pi x.missed, pi x.times, pi x.came, pi x.life, pi x.tries, pi x.chunk.kind, pi x.chunk.tag, pi x.chunk.stream, pi x.chunk.mid, pi x.chunk.part, pb x.chunk.last, pb x.chunk.ordered, .sl 1 (x.chunk.data.map bRow), .sl 2 (x.chunk.spans.map Span.row), pi x.chunk.room, .sl 3 (x.chunk.skips.map Skip.row)]
def Sent.cells (x : Sent) : List HV := [.p (pi x.number), .p (pi x.id), .p (pi x.state), .p (pi x.path), .p (pi x.missed), .p (pi x.times), .p (pi x.came), .p (pi x.life), .p (pi x.tries), .p (pi x.chunk.kind), .p (pi x.chunk.tag), .p (pi x.chunk.stream), .p (pi x.chunk.mid), .p (pi x.chunk.part), .p (pb x.chunk.last), .p (pb x.chunk.ordered), .p (.sl 1 (x.chunk.data.map bRow)), .p (.sl 2 (x.chunk.spans.map Span.row)), .p (pi x.chunk.room), .p (.sl 3 (x.chunk.skips.map Skip.row))]
def Sent.hv (x : Sent) : HV := .agg [.p (pi x.number), .p (pi x.id), .p (pi x.state), .p (pi x.path), .p (pi x.missed), .p (pi x.times), .p (pi x.came), .p (pi x.life), .p (pi x.tries), .p (pi x.chunk.kind), .p (pi x.chunk.tag), .p (pi x.chunk.stream), .p (pi x.chunk.mid), .p (pi x.chunk.part), .p (pb x.chunk.last), .p (pb x.chunk.ordered), .p (.sl 1 (x.chunk.data.map bRow)), .p (.sl 2 (x.chunk.spans.map Span.row)), .p (pi x.chunk.room), .p (.sl 3 (x.chunk.skips.map Skip.row))]
structure Sent.Wf (x : Sent) : Prop where
  number : inI x.number
  id : inI x.id
  state : inI x.state
  path : inI x.path
  missed : inI x.missed
  times : inI x.times
  came : inI x.came
  life : inI x.life
  tries : inI x.tries
  chunk : Chunk.Wf x.chunk
theorem Sent.row_len (x : Sent) : x.row.length = 20 := rfl
theorem Sent.row_map (x : Sent) : .agg (x.row.map .p) = x.hv := rfl
theorem shp_Sent {n : Nat} {pvs : List PV} (h : shp Try.prog n 145 pvs) : ∃ x : Sent, pvs = x.row ∧ x.Wf := by
  have t0 := shp_struct Try.underlying145 h
  obtain ⟨a1, b1, e1, h1, t1⟩ := shpF_cons t0
  obtain ⟨a2, b2, e2, h2, t2⟩ := shpF_cons t1
  obtain ⟨a3, b3, e3, h3, t3⟩ := shpF_cons t2
  obtain ⟨a4, b4, e4, h4, t4⟩ := shpF_cons t3
  obtain ⟨a5, b5, e5, h5, t5⟩ := shpF_cons t4
  obtain ⟨a6, b6, e6, h6, t6⟩ := shpF_cons t5
  obtain ⟨a7, b7, e7, h7, t7⟩ := shpF_cons t6
  obtain ⟨a8, b8, e8, h8, t8⟩ := shpF_cons t7
  obtain ⟨a9, b9, e9, h9, t9⟩ := shpF_cons t8
  obtain ⟨a10, b10, e10, h10, t10⟩ := shpF_cons t9
  obtain ⟨z1, i1, w1⟩ := shp_int Try.underlying3 h1
  obtain ⟨z2, i2, w2⟩ := shp_int Try.underlying3 h2
  obtain ⟨z3, i3, w3⟩ := shp_int Try.underlying3 h3
  obtain ⟨z4, i4, w4⟩ := shp_int Try.underlying3 h4
  obtain ⟨z5, i5, w5⟩ := shp_int Try.underlying3 h5
  obtain ⟨z6, i6, w6⟩ := shp_int Try.underlying3 h6
  obtain ⟨z7, i7, w7⟩ := shp_int Try.underlying3 h7
  obtain ⟨z8, i8, w8⟩ := shp_int Try.underlying3 h8
  obtain ⟨z9, i9, w9⟩ := shp_int Try.underlying3 h9
  obtain ⟨z10, i10, w10⟩ := shp_Chunk h10
  have e11 : b10 = [] := t10
  rw [e1, e2, e3, e4, e5, e6, e7, e8, e9, e10, e11, i1, i2, i3, i4, i5, i6, i7, i8, i9, i10]
  exact ⟨⟨z1, z2, z3, z4, z5, z6, z7, z8, z9, z10⟩, rfl, ⟨inI_of w1, inI_of w2, inI_of w3, inI_of w4, inI_of w5, inI_of w6, inI_of w7, inI_of w8, inI_of w9, w10⟩⟩
theorem arg_Sent (x : Sent) : argHV Try.prog 145 x.row = x.hv := by
  unfold argHV
  rw [Try.underlying145]
  rfl

structure Path where
  window : Int
  slow : Int
  gathered : Int
  flight : Int
  errors : Int
  alarm : Int
  wait : Int
def Path.row (x : Path) : List PV := [pi x.window, pi x.slow, pi x.gathered, pi x.flight, pi x.errors, pi x.alarm, pi x.wait]
def Path.cells (x : Path) : List HV := [.p (pi x.window), .p (pi x.slow), .p (pi x.gathered), .p (pi x.flight), .p (pi x.errors), .p (pi x.alarm), .p (pi x.wait)]
def Path.hv (x : Path) : HV := .agg [.p (pi x.window), .p (pi x.slow), .p (pi x.gathered), .p (pi x.flight), .p (pi x.errors), .p (pi x.alarm), .p (pi x.wait)]
structure Path.Wf (x : Path) : Prop where
  window : inI x.window
  slow : inI x.slow
  gathered : inI x.gathered
  flight : inI x.flight
  errors : inI x.errors
  alarm : inI x.alarm
  wait : inI x.wait
theorem Path.row_len (x : Path) : x.row.length = 7 := rfl
theorem Path.row_map (x : Path) : .agg (x.row.map .p) = x.hv := rfl
theorem shp_Path {n : Nat} {pvs : List PV} (h : shp Try.prog n 109 pvs) : ∃ x : Path, pvs = x.row ∧ x.Wf := by
  have t0 := shp_struct Try.underlying109 h
  obtain ⟨a1, b1, e1, h1, t1⟩ := shpF_cons t0
  obtain ⟨a2, b2, e2, h2, t2⟩ := shpF_cons t1
  obtain ⟨a3, b3, e3, h3, t3⟩ := shpF_cons t2
  obtain ⟨a4, b4, e4, h4, t4⟩ := shpF_cons t3
  obtain ⟨a5, b5, e5, h5, t5⟩ := shpF_cons t4
  obtain ⟨a6, b6, e6, h6, t6⟩ := shpF_cons t5
  obtain ⟨a7, b7, e7, h7, t7⟩ := shpF_cons t6
  obtain ⟨z1, i1, w1⟩ := shp_int Try.underlying3 h1
  obtain ⟨z2, i2, w2⟩ := shp_int Try.underlying3 h2
  obtain ⟨z3, i3, w3⟩ := shp_int Try.underlying3 h3
  obtain ⟨z4, i4, w4⟩ := shp_int Try.underlying3 h4
  obtain ⟨z5, i5, w5⟩ := shp_int Try.underlying3 h5
  obtain ⟨z6, i6, w6⟩ := shp_int Try.underlying3 h6
  obtain ⟨z7, i7, w7⟩ := shp_int Try.underlying3 h7
  have e8 : b7 = [] := t7
  rw [e1, e2, e3, e4, e5, e6, e7, e8, i1, i2, i3, i4, i5, i6, i7]
  exact ⟨⟨z1, z2, z3, z4, z5, z6, z7⟩, rfl, ⟨inI_of w1, inI_of w2, inI_of w3, inI_of w4, inI_of w5, inI_of w6, inI_of w7⟩⟩
theorem arg_Path (x : Path) : argHV Try.prog 109 x.row = x.hv := by
  unfold argHV
  rw [Try.underlying109]
  rfl

structure Piece where
  number : Int
  chunk : Chunk
def Piece.row (x : Piece) : List PV := [pi x.number, pi x.chunk.kind, pi x.chunk.tag, pi x.chunk.stream, pi x.chunk.mid, pi x.chunk.part, pb x.chunk.last, pb x.chunk.ordered, .sl 1 (x.chunk.data.map bRow), .sl 2 (x.chunk.spans.map Span.row), pi x.chunk.room, .sl 3 (x.chunk.skips.map Skip.row)]
def Piece.cells (x : Piece) : List HV := [.p (pi x.number), .p (pi x.chunk.kind), .p (pi x.chunk.tag), .p (pi x.chunk.stream), .p (pi x.chunk.mid), .p (pi x.chunk.part), .p (pb x.chunk.last), .p (pb x.chunk.ordered), .p (.sl 1 (x.chunk.data.map bRow)), .p (.sl 2 (x.chunk.spans.map Span.row)), .p (pi x.chunk.room), .p (.sl 3 (x.chunk.skips.map Skip.row))]
def Piece.hv (x : Piece) : HV := .agg [.p (pi x.number), .p (pi x.chunk.kind), .p (pi x.chunk.tag), .p (pi x.chunk.stream), .p (pi x.chunk.mid), .p (pi x.chunk.part), .p (pb x.chunk.last), .p (pb x.chunk.ordered), .p (.sl 1 (x.chunk.data.map bRow)), .p (.sl 2 (x.chunk.spans.map Span.row)), .p (pi x.chunk.room), .p (.sl 3 (x.chunk.skips.map Skip.row))]
structure Piece.Wf (x : Piece) : Prop where
  number : inI x.number
  chunk : Chunk.Wf x.chunk
theorem Piece.row_len (x : Piece) : x.row.length = 12 := rfl
theorem Piece.row_map (x : Piece) : .agg (x.row.map .p) = x.hv := rfl
theorem shp_Piece {n : Nat} {pvs : List PV} (h : shp Try.prog n 80 pvs) : ∃ x : Piece, pvs = x.row ∧ x.Wf := by
  have t0 := shp_struct Try.underlying80 h
  obtain ⟨a1, b1, e1, h1, t1⟩ := shpF_cons t0
  obtain ⟨a2, b2, e2, h2, t2⟩ := shpF_cons t1
  obtain ⟨z1, i1, w1⟩ := shp_int Try.underlying3 h1
  obtain ⟨z2, i2, w2⟩ := shp_Chunk h2
  have e3 : b2 = [] := t2
  rw [e1, e2, e3, i1, i2]
  exact ⟨⟨z1, z2⟩, rfl, ⟨inI_of w1, w2⟩⟩
theorem arg_Piece (x : Piece) : argHV Try.prog 80 x.row = x.hv := by
  unfold argHV
  rw [Try.underlying80]
  rfl

structure Arrival where
  stream : Int
  mid : Int
  ordered : Bool
  data : List UInt8
def Arrival.row (x : Arrival) : List PV := [pi x.stream, pi x.mid, pb x.ordered, .sl 1 (x.data.map bRow)]
def Arrival.cells (x : Arrival) : List HV := [.p (pi x.stream), .p (pi x.mid), .p (pb x.ordered), .p (.sl 1 (x.data.map bRow))]
def Arrival.hv (x : Arrival) : HV := .agg [.p (pi x.stream), .p (pi x.mid), .p (pb x.ordered), .p (.sl 1 (x.data.map bRow))]
structure Arrival.Wf (x : Arrival) : Prop where
  stream : inI x.stream
  mid : inI x.mid
theorem Arrival.row_len (x : Arrival) : x.row.length = 4 := rfl
theorem Arrival.row_map (x : Arrival) : .agg (x.row.map .p) = x.hv := rfl
theorem shp_Arrival {n : Nat} {pvs : List PV} (h : shp Try.prog n 48 pvs) : ∃ x : Arrival, pvs = x.row ∧ x.Wf := by
  have t0 := shp_struct Try.underlying48 h
  obtain ⟨a1, b1, e1, h1, t1⟩ := shpF_cons t0
  obtain ⟨a2, b2, e2, h2, t2⟩ := shpF_cons t1
  obtain ⟨a3, b3, e3, h3, t3⟩ := shpF_cons t2
  obtain ⟨a4, b4, e4, h4, t4⟩ := shpF_cons t3
  obtain ⟨z1, i1, w1⟩ := shp_int Try.underlying3 h1
  obtain ⟨z2, i2, w2⟩ := shp_int Try.underlying3 h2
  obtain ⟨z3, i3⟩ := shp_bool Try.underlying4 h3
  obtain ⟨z4, i4⟩ := shp_bytes Try.underlying25 Try.underlying5 (by kernel_rfl) h4
  have e5 : b4 = [] := t4
  rw [e1, e2, e3, e4, e5, i1, i2, i3, i4]
  exact ⟨⟨z1, z2, z3, z4⟩, rfl, ⟨inI_of w1, inI_of w2⟩⟩
theorem arg_Arrival (x : Arrival) : argHV Try.prog 48 x.row = x.hv := by
  unfold argHV
  rw [Try.underlying48]
  rfl

structure Receiver where
  config : Config
  cum : Int
  spans : List Span
  pieces : List Piece
  turn : List Int
  log : List Arrival
def Receiver.row (x : Receiver) : List PV := [pi x.config.streams, pi x.config.part, pi x.config.packet, pi x.config.paths, pi x.config.turns, pi x.config.waiting, pi x.config.first, pi x.cum, .sl 2 (x.spans.map Span.row), .sl 12 (x.pieces.map Piece.row), .sl 1 (x.turn.map (fun n => [pi n])), .sl 4 (x.log.map Arrival.row)]
def Receiver.cells (x : Receiver) : List HV := [.p (pi x.config.streams), .p (pi x.config.part), .p (pi x.config.packet), .p (pi x.config.paths), .p (pi x.config.turns), .p (pi x.config.waiting), .p (pi x.config.first), .p (pi x.cum), .p (.sl 2 (x.spans.map Span.row)), .p (.sl 12 (x.pieces.map Piece.row)), .p (.sl 1 (x.turn.map (fun n => [pi n]))), .p (.sl 4 (x.log.map Arrival.row))]
def Receiver.hv (x : Receiver) : HV := .agg [.p (pi x.config.streams), .p (pi x.config.part), .p (pi x.config.packet), .p (pi x.config.paths), .p (pi x.config.turns), .p (pi x.config.waiting), .p (pi x.config.first), .p (pi x.cum), .p (.sl 2 (x.spans.map Span.row)), .p (.sl 12 (x.pieces.map Piece.row)), .p (.sl 1 (x.turn.map (fun n => [pi n]))), .p (.sl 4 (x.log.map Arrival.row))]
structure Receiver.Wf (x : Receiver) : Prop where
  config : Config.Wf x.config
  cum : inI x.cum
  spans : ∀ y ∈ x.spans, Span.Wf y
  pieces : ∀ y ∈ x.pieces, Piece.Wf y
  turn : ∀ y ∈ x.turn, inI y
  log : ∀ y ∈ x.log, Arrival.Wf y
theorem Receiver.row_len (x : Receiver) : x.row.length = 12 := rfl
theorem Receiver.row_map (x : Receiver) : .agg (x.row.map .p) = x.hv := rfl
theorem shp_Receiver {n : Nat} {pvs : List PV} (h : shp Try.prog n 35 pvs) : ∃ x : Receiver, pvs = x.row ∧ x.Wf := by
  have t0 := shp_struct Try.underlying35 h
  obtain ⟨a1, b1, e1, h1, t1⟩ := shpF_cons t0
  obtain ⟨a2, b2, e2, h2, t2⟩ := shpF_cons t1
  obtain ⟨a3, b3, e3, h3, t3⟩ := shpF_cons t2
  obtain ⟨a4, b4, e4, h4, t4⟩ := shpF_cons t3
  obtain ⟨a5, b5, e5, h5, t5⟩ := shpF_cons t4
  obtain ⟨a6, b6, e6, h6, t6⟩ := shpF_cons t5
  obtain ⟨z1, i1, w1⟩ := shp_Config h1
  obtain ⟨z2, i2, w2⟩ := shp_int Try.underlying3 h2
  obtain ⟨z3, i3, w3⟩ := shp_list Try.underlying26 (c := 2) (by kernel_rfl) (fun r hr => shp_Span hr) h3
  obtain ⟨z4, i4, w4⟩ := shp_list Try.underlying31 (c := 12) (by kernel_rfl) (fun r hr => shp_Piece hr) h4
  obtain ⟨z5, i5, w5⟩ := shp_ints Try.underlying32 Try.underlying3 (by kernel_rfl) h5
  obtain ⟨z6, i6, w6⟩ := shp_list Try.underlying33 (c := 4) (by kernel_rfl) (fun r hr => shp_Arrival hr) h6
  have e7 : b6 = [] := t6
  rw [e1, e2, e3, e4, e5, e6, e7, i1, i2, i3, i4, i5, i6]
  exact ⟨⟨z1, z2, z3, z4, z5, z6⟩, rfl, ⟨w1, inI_of w2, w3, w4, w5, w6⟩⟩
theorem arg_Receiver (x : Receiver) : argHV Try.prog 35 x.row = x.hv := by
  unfold argHV
  rw [Try.underlying35]
  rfl

structure Packet where
  path : Int
  back : Bool
  bytes : List UInt8
def Packet.row (x : Packet) : List PV := [pi x.path, pb x.back, .sl 1 (x.bytes.map bRow)]
def Packet.cells (x : Packet) : List HV := [.p (pi x.path), .p (pb x.back), .p (.sl 1 (x.bytes.map bRow))]
def Packet.hv (x : Packet) : HV := .agg [.p (pi x.path), .p (pb x.back), .p (.sl 1 (x.bytes.map bRow))]
structure Packet.Wf (x : Packet) : Prop where
  path : inI x.path
theorem Packet.row_len (x : Packet) : x.row.length = 3 := rfl
theorem Packet.row_map (x : Packet) : .agg (x.row.map .p) = x.hv := rfl
theorem shp_Packet {n : Nat} {pvs : List PV} (h : shp Try.prog n 162 pvs) : ∃ x : Packet, pvs = x.row ∧ x.Wf := by
  have t0 := shp_struct Try.underlying162 h
  obtain ⟨a1, b1, e1, h1, t1⟩ := shpF_cons t0
  obtain ⟨a2, b2, e2, h2, t2⟩ := shpF_cons t1
  obtain ⟨a3, b3, e3, h3, t3⟩ := shpF_cons t2
  obtain ⟨z1, i1, w1⟩ := shp_int Try.underlying3 h1
  obtain ⟨z2, i2⟩ := shp_bool Try.underlying4 h2
  obtain ⟨z3, i3⟩ := shp_bytes Try.underlying25 Try.underlying5 (by kernel_rfl) h3
  have e4 : b3 = [] := t3
  rw [e1, e2, e3, e4, i1, i2, i3]
  exact ⟨⟨z1, z2, z3⟩, rfl, ⟨inI_of w1⟩⟩
theorem arg_Packet (x : Packet) : argHV Try.prog 162 x.row = x.hv := by
  unfold argHV
  rw [Try.underlying162]
  rfl

structure Sender where
  config : Config
  clock : Int
  queue : List Queued
  sched : Sched
  out : List Sent
  paths : List Path
  cum : Int
  next : Int
  room : Int
  mids : List Int
  fates : List Int
  forward : Bool
  recover : Int
def Sender.row (x : Sender) : List PV := [pi x.config.streams, pi x.config.part, pi x.config.packet, pi x.config.paths, pi x.config.turns, pi x.config.waiting, pi x.config.first, pi x.clock, .sl 10 (x.queue.map Queued.row), pi x.sched.last, pi x.sched.hand, .sl 1 (x.sched.had.map (fun n => [pi n])), .sl 20 (x.out.map Sent.row), .sl 7 (x.paths.map Path.row), pi x.cum, pi x.next, pi x.room, .sl 1 (x.mids.map (fun n => [pi n])), .sl 1 (x.fates.map (fun n => [pi n])), pb x.forward, pi x.recover]
def Sender.cells (x : Sender) : List HV := [.p (pi x.config.streams), .p (pi x.config.part), .p (pi x.config.packet), .p (pi x.config.paths), .p (pi x.config.turns), .p (pi x.config.waiting), .p (pi x.config.first), .p (pi x.clock), .p (.sl 10 (x.queue.map Queued.row)), .p (pi x.sched.last), .p (pi x.sched.hand), .p (.sl 1 (x.sched.had.map (fun n => [pi n]))), .p (.sl 20 (x.out.map Sent.row)), .p (.sl 7 (x.paths.map Path.row)), .p (pi x.cum), .p (pi x.next), .p (pi x.room), .p (.sl 1 (x.mids.map (fun n => [pi n]))), .p (.sl 1 (x.fates.map (fun n => [pi n]))), .p (pb x.forward), .p (pi x.recover)]
def Sender.hv (x : Sender) : HV := .agg [.p (pi x.config.streams), .p (pi x.config.part), .p (pi x.config.packet), .p (pi x.config.paths), .p (pi x.config.turns), .p (pi x.config.waiting), .p (pi x.config.first), .p (pi x.clock), .p (.sl 10 (x.queue.map Queued.row)), .p (pi x.sched.last), .p (pi x.sched.hand), .p (.sl 1 (x.sched.had.map (fun n => [pi n]))), .p (.sl 20 (x.out.map Sent.row)), .p (.sl 7 (x.paths.map Path.row)), .p (pi x.cum), .p (pi x.next), .p (pi x.room), .p (.sl 1 (x.mids.map (fun n => [pi n]))), .p (.sl 1 (x.fates.map (fun n => [pi n]))), .p (pb x.forward), .p (pi x.recover)]
structure Sender.Wf (x : Sender) : Prop where
  config : Config.Wf x.config
  clock : inI x.clock
  queue : ∀ y ∈ x.queue, Queued.Wf y
  sched : Sched.Wf x.sched
  out : ∀ y ∈ x.out, Sent.Wf y
  paths : ∀ y ∈ x.paths, Path.Wf y
  cum : inI x.cum
  next : inI x.next
  room : inI x.room
  mids : ∀ y ∈ x.mids, inI y
  fates : ∀ y ∈ x.fates, inI y
  recover : inI x.recover
theorem Sender.row_len (x : Sender) : x.row.length = 21 := rfl
theorem Sender.row_map (x : Sender) : .agg (x.row.map .p) = x.hv := rfl
theorem shp_Sender {n : Nat} {pvs : List PV} (h : shp Try.prog n 62 pvs) : ∃ x : Sender, pvs = x.row ∧ x.Wf := by
  have t0 := shp_struct Try.underlying62 h
  obtain ⟨a1, b1, e1, h1, t1⟩ := shpF_cons t0
  obtain ⟨a2, b2, e2, h2, t2⟩ := shpF_cons t1
  obtain ⟨a3, b3, e3, h3, t3⟩ := shpF_cons t2
  obtain ⟨a4, b4, e4, h4, t4⟩ := shpF_cons t3
  obtain ⟨a5, b5, e5, h5, t5⟩ := shpF_cons t4
  obtain ⟨a6, b6, e6, h6, t6⟩ := shpF_cons t5
  obtain ⟨a7, b7, e7, h7, t7⟩ := shpF_cons t6
  obtain ⟨a8, b8, e8, h8, t8⟩ := shpF_cons t7
  obtain ⟨a9, b9, e9, h9, t9⟩ := shpF_cons t8
  obtain ⟨a10, b10, e10, h10, t10⟩ := shpF_cons t9
  obtain ⟨a11, b11, e11, h11, t11⟩ := shpF_cons t10
  obtain ⟨a12, b12, e12, h12, t12⟩ := shpF_cons t11
  obtain ⟨a13, b13, e13, h13, t13⟩ := shpF_cons t12
  obtain ⟨z1, i1, w1⟩ := shp_Config h1
  obtain ⟨z2, i2, w2⟩ := shp_int Try.underlying3 h2
  obtain ⟨z3, i3, w3⟩ := shp_list Try.underlying56 (c := 10) (by kernel_rfl) (fun r hr => shp_Queued hr) h3
  obtain ⟨z4, i4, w4⟩ := shp_Sched h4
  obtain ⟨z5, i5, w5⟩ := shp_list Try.underlying59 (c := 20) (by kernel_rfl) (fun r hr => shp_Sent hr) h5
  obtain ⟨z6, i6, w6⟩ := shp_list Try.underlying60 (c := 7) (by kernel_rfl) (fun r hr => shp_Path hr) h6
  obtain ⟨z7, i7, w7⟩ := shp_int Try.underlying3 h7
  obtain ⟨z8, i8, w8⟩ := shp_int Try.underlying3 h8
  obtain ⟨z9, i9, w9⟩ := shp_int Try.underlying3 h9
  obtain ⟨z10, i10, w10⟩ := shp_ints Try.underlying32 Try.underlying3 (by kernel_rfl) h10
  obtain ⟨z11, i11, w11⟩ := shp_ints Try.underlying32 Try.underlying3 (by kernel_rfl) h11
  obtain ⟨z12, i12⟩ := shp_bool Try.underlying4 h12
  obtain ⟨z13, i13, w13⟩ := shp_int Try.underlying3 h13
  have e14 : b13 = [] := t13
  rw [e1, e2, e3, e4, e5, e6, e7, e8, e9, e10, e11, e12, e13, e14, i1, i2, i3, i4, i5, i6, i7, i8, i9, i10, i11, i12, i13]
  exact ⟨⟨z1, z2, z3, z4, z5, z6, z7, z8, z9, z10, z11, z12, z13⟩, rfl, ⟨w1, inI_of w2, w3, w4, w5, w6, inI_of w7, inI_of w8, inI_of w9, w10, w11, inI_of w13⟩⟩
theorem arg_Sender (x : Sender) : argHV Try.prog 62 x.row = x.hv := by
  unfold argHV
  rw [Try.underlying62]
  rfl

structure Step where
  kind : Int
  n : Int
  message : Message
def Step.row (x : Step) : List PV := [pi x.kind, pi x.n, pi x.message.stream, pb x.message.ordered, pi x.message.life, pi x.message.tries, .sl 1 (x.message.data.map bRow)]
def Step.cells (x : Step) : List HV := [.p (pi x.kind), .p (pi x.n), .p (pi x.message.stream), .p (pb x.message.ordered), .p (pi x.message.life), .p (pi x.message.tries), .p (.sl 1 (x.message.data.map bRow))]
def Step.hv (x : Step) : HV := .agg [.p (pi x.kind), .p (pi x.n), .p (pi x.message.stream), .p (pb x.message.ordered), .p (pi x.message.life), .p (pi x.message.tries), .p (.sl 1 (x.message.data.map bRow))]
structure Step.Wf (x : Step) : Prop where
  kind : inI x.kind
  n : inI x.n
  message : Message.Wf x.message
theorem Step.row_len (x : Step) : x.row.length = 7 := rfl
theorem Step.row_map (x : Step) : .agg (x.row.map .p) = x.hv := rfl
theorem shp_Step {n : Nat} {pvs : List PV} (h : shp Try.prog n 70 pvs) : ∃ x : Step, pvs = x.row ∧ x.Wf := by
  have t0 := shp_struct Try.underlying70 h
  obtain ⟨a1, b1, e1, h1, t1⟩ := shpF_cons t0
  obtain ⟨a2, b2, e2, h2, t2⟩ := shpF_cons t1
  obtain ⟨a3, b3, e3, h3, t3⟩ := shpF_cons t2
  obtain ⟨z1, i1, w1⟩ := shp_int Try.underlying3 h1
  obtain ⟨z2, i2, w2⟩ := shp_int Try.underlying3 h2
  obtain ⟨z3, i3, w3⟩ := shp_Message h3
  have e4 : b3 = [] := t3
  rw [e1, e2, e3, e4, i1, i2, i3]
  exact ⟨⟨z1, z2, z3⟩, rfl, ⟨inI_of w1, inI_of w2, w3⟩⟩
theorem arg_Step (x : Step) : argHV Try.prog 70 x.row = x.hv := by
  unfold argHV
  rw [Try.underlying70]
  rfl

end Go.HL
