/- The program's structs as Lean structures, and what a reading's shape says of them. -/
import Derived.Test.YticmofoeecjnhaaHL
import Derived.Test.YticmofoeecjnhaaProg
namespace Go.HL
open Go.Proofs
theorem mixed : Try.prog.follows .mixedOrders = true := by kernel_rfl
structure Span where
  lo : Int
  hi : Int
def Span.row (x : Span) : List PV := [pi x.lo, pi x.hi]
def Span.cells (x : Span) : List HV := [.p (pi x.lo), .p (pi x.hi)]
def Span.hv (x : Span) : HV := .agg [.p (pi x.lo), .p (pi x.hi)]
structure Span.Wf (x : Span) : Prop where
  lo : inI x.lo
  hi : inI x.hi
structure Skip where
  stream : Int
  mid : Int
  ordered : Bool
def Skip.row (x : Skip) : List PV := [pi x.stream, pi x.mid, pb x.ordered]
def Skip.cells (x : Skip) : List HV := [.p (pi x.stream), .p (pi x.mid), .p (pb x.ordered)]
def Skip.hv (x : Skip) : HV := .agg [.p (pi x.stream), .p (pi x.mid), .p (pb x.ordered)]
structure Skip.Wf (x : Skip) : Prop where
  stream : inI x.stream
  mid : inI x.mid
structure Chunk where
  kind : Int
  tag : Int
  stream : Int
  mid : Int
  part : Int
  last : Bool
  ordered : Bool
  data : List UInt8
  spans : List Span
  room : Int
  skips : List Skip
def Chunk.row (x : Chunk) : List PV := [pi x.kind, pi x.tag, pi x.stream, pi x.mid, pi x.part, pb x.last, pb x.ordered, .sl 1 (x.data.map bRow), .sl 2 (x.spans.map Span.row), pi x.room, .sl 3 (x.skips.map Skip.row)]
def Chunk.cells (x : Chunk) : List HV := [.p (pi x.kind), .p (pi x.tag), .p (pi x.stream), .p (pi x.mid), .p (pi x.part), .p (pb x.last), .p (pb x.ordered), .p (.sl 1 (x.data.map bRow)), .p (.sl 2 (x.spans.map Span.row)), .p (pi x.room), .p (.sl 3 (x.skips.map Skip.row))]
def Chunk.hv (x : Chunk) : HV := .agg [.p (pi x.kind), .p (pi x.tag), .p (pi x.stream), .p (pi x.mid), .p (pi x.part), .p (pb x.last), .p (pb x.ordered), .p (.sl 1 (x.data.map bRow)), .p (.sl 2 (x.spans.map Span.row)), .p (pi x.room), .p (.sl 3 (x.skips.map Skip.row))]
structure Chunk.Wf (x : Chunk) : Prop where
  kind : inI x.kind
  tag : inI x.tag
  stream : inI x.stream
  mid : inI x.mid
  part : inI x.part
  spans : ∀ y ∈ x.spans, Span.Wf y
  room : inI x.room
  skips : ∀ y ∈ x.skips, Skip.Wf y
structure Config where
  streams : Int
  part : Int
  packet : Int
  paths : Int
  turns : Int
  waiting : Int
  first : Int
def Config.row (x : Config) : List PV := [pi x.streams, pi x.part, pi x.packet, pi x.paths, pi x.turns, pi x.waiting, pi x.first]
def Config.cells (x : Config) : List HV := [.p (pi x.streams), .p (pi x.part), .p (pi x.packet), .p (pi x.paths), .p (pi x.turns), .p (pi x.waiting), .p (pi x.first)]
def Config.hv (x : Config) : HV := .agg [.p (pi x.streams), .p (pi x.part), .p (pi x.packet), .p (pi x.paths), .p (pi x.turns), .p (pi x.waiting), .p (pi x.first)]
structure Config.Wf (x : Config) : Prop where
  streams : inI x.streams
  part : inI x.part
  packet : inI x.packet
  paths : inI x.paths
  turns : inI x.turns
  waiting : inI x.waiting
  first : inI x.first
theorem shp_Config {n : Nat} {pvs : List PV} (h : shp Try.prog n 23 pvs) : ∃ x : Config, pvs = x.row ∧ x.Wf := by
  have t0 := shp_struct Try.underlying23 h
  obtain ⟨a1, b1, e1, h1, t1⟩ := shpF_cons t0
  obtain ⟨a2, b2, e2, h2, t2⟩ := shpF_cons t1
  obtain ⟨a3, b3, e3, h3, t3⟩ := shpF_cons t2
  obtain ⟨a4, b4, e4, h4, t4⟩ := shpF_cons t3
  obtain ⟨a5, b5, e5, h5, t5⟩ := shpF_cons t4
  obtain ⟨a6, b6, e6, h6, t6⟩ := shpF_cons t5
  obtain ⟨a7, b7, e7, h7, t7⟩ := shpF_cons t6
  obtain ⟨z1, i1, w1⟩ := shp_int Try.underlying3 h1
  obtain ⟨z2, i2, w2⟩ := shp_int Try.underlying3 h2
  obtain ⟨z3, i3, w3⟩ := shp_int Try.underlying3 h3
  obtain ⟨z4, i4, w4⟩ := shp_int Try.underlying3 h4
  obtain ⟨z5, i5, w5⟩ := shp_int Try.underlying3 h5
  obtain ⟨z6, i6, w6⟩ := shp_int Try.underlying3 h6
  obtain ⟨z7, i7, w7⟩ := shp_int Try.underlying3 h7
  have e8 : b7 = [] := t7
  rw [e1, e2, e3, e4, e5, e6, e7, e8, i1, i2, i3, i4, i5, i6, i7]
  exact ⟨⟨z1, z2, z3, z4, z5, z6, z7⟩, rfl, ⟨inI_of w1, inI_of w2, inI_of w3, inI_of w4, inI_of w5, inI_of w6, inI_of w7⟩⟩
theorem arg_Config (x : Config) : argHV Try.prog 23 x.row = x.hv := by
  unfold argHV
  rw [Try.underlying23]
  rfl
structure Message where
  stream : Int
  ordered : Bool
  life : Int
  tries : Int
  data : List UInt8
def Message.row (x : Message) : List PV := [pi x.stream, pb x.ordered, pi x.life, pi x.tries, .sl 1 (x.data.map bRow)]
def Message.cells (x : Message) : List HV := [.p (pi x.stream), .p (pb x.ordered), .p (pi x.life), .p (pi x.tries), .p (.sl 1 (x.data.map bRow))]
def Message.hv (x : Message) : HV := .agg [.p (pi x.stream), .p (pb x.ordered), .p (pi x.life), .p (pi x.tries), .p (.sl 1 (x.data.map bRow))]
structure Message.Wf (x : Message) : Prop where
  stream : inI x.stream
  life : inI x.life
  tries : inI x.tries
theorem shp_Message {n : Nat} {pvs : List PV} (h : shp Try.prog n 68 pvs) : ∃ x : Message, pvs = x.row ∧ x.Wf := by
  have t0 := shp_struct Try.underlying68 h
  obtain ⟨a1, b1, e1, h1, t1⟩ := shpF_cons t0
  obtain ⟨a2, b2, e2, h2, t2⟩ := shpF_cons t1
  obtain ⟨a3, b3, e3, h3, t3⟩ := shpF_cons t2
  obtain ⟨a4, b4, e4, h4, t4⟩ := shpF_cons t3
  obtain ⟨a5, b5, e5, h5, t5⟩ := shpF_cons t4
  obtain ⟨z1, i1, w1⟩ := shp_int Try.underlying3 h1
  obtain ⟨z2, i2⟩ := shp_bool Try.underlying4 h2
  obtain ⟨z3, i3, w3⟩ := shp_int Try.underlying3 h3
  obtain ⟨z4, i4, w4⟩ := shp_int Try.underlying3 h4
  obtain ⟨z5, i5⟩ := shp_bytes Try.underlying25 Try.underlying5 (by kernel_rfl) h5
  have e6 : b5 = [] := t5
  rw [e1, e2, e3, e4, e5, e6, i1, i2, i3, i4, i5]
  exact ⟨⟨z1, z2, z3, z4, z5⟩, rfl, ⟨inI_of w1, inI_of w3, inI_of w4⟩⟩
structure Queued where
  id : Int
  mid : Int
  came : Int
  sent : Int
  parts : Int
  message : Message
def Queued.row (x : Queued) : List PV := [pi x.id, pi x.mid, pi x.came, pi x.sent, pi x.parts, pi x.message.stream, pb x.message.ordered, pi x.message.life, pi x.message.tries, .sl 1 (x.message.data.map bRow)]
def Queued.cells (x : Queued) : List HV := [.p (pi x.id), .p (pi x.mid), .p (pi x.came), .p (pi x.sent), .p (pi x.parts), .p (pi x.message.stream), .p (pb x.message.ordered), .p (pi x.message.life), .p (pi x.message.tries), .p (.sl 1 (x.message.data.map bRow))]
def Queued.hv (x : Queued) : HV := .agg [.p (pi x.id), .p (pi x.mid), .p (pi x.came), .p (pi x.sent), .p (pi x.parts), .p (pi x.message.stream), .p (pb x.message.ordered), .p (pi x.message.life), .p (pi x.message.tries), .p (.sl 1 (x.message.data.map bRow))]
structure Queued.Wf (x : Queued) : Prop where
  id : inI x.id
  mid : inI x.mid
  came : inI x.came
  sent : inI x.sent
  parts : inI x.parts
  message : Message.Wf x.message
structure Sched where
  last : Int
  hand : Int
  had : List Int
def Sched.row (x : Sched) : List PV := [pi x.last, pi x.hand, .sl 1 (x.had.map (fun n => [pi n]))]
def Sched.cells (x : Sched) : List HV := [.p (pi x.last), .p (pi x.hand), .p (.sl 1 (x.had.map (fun n => [pi n])))]
def Sched.hv (x : Sched) : HV := .agg [.p (pi x.last), .p (pi x.hand), .p (.sl 1 (x.had.map (fun n => [pi n])))]
structure Sched.Wf (x : Sched) : Prop where
  last : inI x.last
  hand : inI x.hand
  had : ∀ y ∈ x.had, inI y
structure Sent where
  number : Int
  id : Int
  state : Int
  path : Int
  missed : Int
  times : Int
  came : Int
  life : Int
  tries : Int
  chunk : Chunk
def Sent.row (x : Sent) : List PV := [pi x.number, pi x.id, pi x.state, pi x.path, pi x.missed, pi x.times, pi x.came, pi x.life, pi x.tries, pi x.chunk.kind, pi x.chunk.tag, pi x.chunk.stream, pi x.chunk.mid, pi x.chunk.part, pb x.chunk.last, pb x.chunk.ordered, .sl 1 (x.chunk.data.map bRow), .sl 2 (x.chunk.spans.map Span.row), pi x.chunk.room, .sl 3 (x.chunk.skips.map Skip.row)]
def Sent.cells (x : Sent) : List HV := [.p (pi x.number), .p (pi x.id), .p (pi x.state), .p (pi x.path), .p (pi x.missed), .p (pi x.times), .p (pi x.came), .p (pi x.life), .p (pi x.tries), .p (pi x.chunk.kind), .p (pi x.chunk.tag), .p (pi x.chunk.stream), .p (pi x.chunk.mid), .p (pi x.chunk.part), .p (pb x.chunk.last), .p (pb x.chunk.ordered), .p (.sl 1 (x.chunk.data.map bRow)), .p (.sl 2 (x.chunk.spans.map Span.row)), .p (pi x.chunk.room), .p (.sl 3 (x.chunk.skips.map Skip.row))]
def Sent.hv (x : Sent) : HV := .agg [.p (pi x.number), .p (pi x.id), .p (pi x.state), .p (pi x.path), .p (pi x.missed), .p (pi x.times), .p (pi x.came), .p (pi x.life), .p (pi x.tries), .p (pi x.chunk.kind), .p (pi x.chunk.tag), .p (pi x.chunk.stream), .p (pi x.chunk.mid), .p (pi x.chunk.part), .p (pb x.chunk.last), .p (pb x.chunk.ordered), .p (.sl 1 (x.chunk.data.map bRow)), .p (.sl 2 (x.chunk.spans.map Span.row)), .p (pi x.chunk.room), .p (.sl 3 (x.chunk.skips.map Skip.row))]
structure Sent.Wf (x : Sent) : Prop where
  number : inI x.number
  id : inI x.id
  state : inI x.state
  path : inI x.path
  missed : inI x.missed
  times : inI x.times
  came : inI x.came
  life : inI x.life
  tries : inI x.tries
  chunk : Chunk.Wf x.chunk
structure Path where
  window : Int
  slow : Int
  gathered : Int
  flight : Int
  errors : Int
  alarm : Int
  wait : Int
def Path.row (x : Path) : List PV := [pi x.window, pi x.slow, pi x.gathered, pi x.flight, pi x.errors, pi x.alarm, pi x.wait]
def Path.cells (x : Path) : List HV := [.p (pi x.window), .p (pi x.slow), .p (pi x.gathered), .p (pi x.flight), .p (pi x.errors), .p (pi x.alarm), .p (pi x.wait)]
def Path.hv (x : Path) : HV := .agg [.p (pi x.window), .p (pi x.slow), .p (pi x.gathered), .p (pi x.flight), .p (pi x.errors), .p (pi x.alarm), .p (pi x.wait)]
structure Path.Wf (x : Path) : Prop where
  window : inI x.window
  slow : inI x.slow
  gathered : inI x.gathered
  flight : inI x.flight
  errors : inI x.errors
  alarm : inI x.alarm
  wait : inI x.wait
structure Piece where
  number : Int
  chunk : Chunk
def Piece.row (x : Piece) : List PV := [pi x.number, pi x.chunk.kind, pi x.chunk.tag, pi x.chunk.stream, pi x.chunk.mid, pi x.chunk.part, pb x.chunk.last, pb x.chunk.ordered, .sl 1 (x.chunk.data.map bRow), .sl 2 (x.chunk.spans.map Span.row), pi x.chunk.room, .sl 3 (x.chunk.skips.map Skip.row)]
def Piece.cells (x : Piece) : List HV := [.p (pi x.number), .p (pi x.chunk.kind), .p (pi x.chunk.tag), .p (pi x.chunk.stream), .p (pi x.chunk.mid), .p (pi x.chunk.part), .p (pb x.chunk.last), .p (pb x.chunk.ordered), .p (.sl 1 (x.chunk.data.map bRow)), .p (.sl 2 (x.chunk.spans.map Span.row)), .p (pi x.chunk.room), .p (.sl 3 (x.chunk.skips.map Skip.row))]
def Piece.hv (x : Piece) : HV := .agg [.p (pi x.number), .p (pi x.chunk.kind), .p (pi x.chunk.tag), .p (pi x.chunk.stream), .p (pi x.chunk.mid), .p (pi x.chunk.part), .p (pb x.chunk.last), .p (pb x.chunk.ordered), .p (.sl 1 (x.chunk.data.map bRow)), .p (.sl 2 (x.chunk.spans.map Span.row)), .p (pi x.chunk.room), .p (.sl 3 (x.chunk.skips.map Skip.row))]
structure Piece.Wf (x : Piece) : Prop where
  number : inI x.number
  chunk : Chunk.Wf x.chunk
structure Arrival where
  stream : Int
  mid : Int
  ordered : Bool
  data : List UInt8
def Arrival.row (x : Arrival) : List PV := [pi x.stream, pi x.mid, pb x.ordered, .sl 1 (x.data.map bRow)]
def Arrival.cells (x : Arrival) : List HV := [.p (pi x.stream), .p (pi x.mid), .p (pb x.ordered), .p (.sl 1 (x.data.map bRow))]
def Arrival.hv (x : Arrival) : HV := .agg [.p (pi x.stream), .p (pi x.mid), .p (pb x.ordered), .p (.sl 1 (x.data.map bRow))]
structure Arrival.Wf (x : Arrival) : Prop where
  stream : inI x.stream
  mid : inI x.mid
structure Receiver where
  config : Config
  cum : Int
  spans : List Span
  pieces : List Piece
  turn : List Int
  log : List Arrival
def Receiver.row (x : Receiver) : List PV := [pi x.config.streams, pi x.config.part, pi x.config.packet, pi x.config.paths, pi x.config.turns, pi x.config.waiting, pi x.config.first, pi x.cum, .sl 2 (x.spans.map Span.row), .sl 12 (x.pieces.map Piece.row), .sl 1 (x.turn.map (fun n => [pi n])), .sl 4 (x.log.map Arrival.row)]
def Receiver.cells (x : Receiver) : List HV := [.p (pi x.config.streams), .p (pi x.config.part), .p (pi x.config.packet), .p (pi x.config.paths), .p (pi x.config.turns), .p (pi x.config.waiting), .p (pi x.config.first), .p (pi x.cum), .p (.sl 2 (x.spans.map Span.row)), .p (.sl 12 (x.pieces.map Piece.row)), .p (.sl 1 (x.turn.map (fun n => [pi n]))), .p (.sl 4 (x.log.map Arrival.row))]
def Receiver.hv (x : Receiver) : HV := .agg [.p (pi x.config.streams), .p (pi x.config.part), .p (pi x.config.packet), .p (pi x.config.paths), .p (pi x.config.turns), .p (pi x.config.waiting), .p (pi x.config.first), .p (pi x.cum), .p (.sl 2 (x.spans.map Span.row)), .p (.sl 12 (x.pieces.map Piece.row)), .p (.sl 1 (x.turn.map (fun n => [pi n]))), .p (.sl 4 (x.log.map Arrival.row))]
structure Receiver.Wf (x : Receiver) : Prop where
  config : Config.Wf x.config
  cum : inI x.cum
  spans : ∀ y ∈ x.spans, Span.Wf y
  pieces : ∀ y ∈ x.pieces, Piece.Wf y
  turn : ∀ y ∈ x.turn, inI y
  log : ∀ y ∈ x.log, Arrival.Wf y
structure Packet where
  path : Int
  back : Bool
  bytes : List UInt8
def Packet.row (x : Packet) : List PV := [pi x.path, pb x.back, .sl 1 (x.bytes.map bRow)]
def Packet.cells (x : Packet) : List HV := [.p (pi x.path), .p (pb x.back), .p (.sl 1 (x.bytes.map bRow))]
def Packet.hv (x : Packet) : HV := .agg [.p (pi x.path), .p (pb x.back), .p (.sl 1 (x.bytes.map bRow))]
structure Packet.Wf (x : Packet) : Prop where
  path : inI x.path
structure Sender where
  config : Config
  clock : Int
  queue : List Queued
  sched : Sched
  out : List Sent
  paths : List Path
  cum : Int
  next : Int
  room : Int
  mids : List Int
  fates : List Int
  forward : Bool
  recover : Int
def Sender.row (x : Sender) : List PV := [pi x.config.streams, pi x.config.part, pi x.config.packet, pi x.config.paths, pi x.config.turns, pi x.config.waiting, pi x.config.first, pi x.clock, .sl 10 (x.queue.map Queued.row), pi x.sched.last, pi x.sched.hand, .sl 1 (x.sched.had.map (fun n => [pi n])), .sl 20 (x.out.map Sent.row), .sl 7 (x.paths.map Path.row), pi x.cum, pi x.next, pi x.room, .sl 1 (x.mids.map (fun n => [pi n])), .sl 1 (x.fates.map (fun n => [pi n])), pb x.forward, pi x.recover]
def Sender.cells (x : Sender) : List HV := [.p (pi x.config.streams), .p (pi x.config.part), .p (pi x.config.packet), .p (pi x.config.paths), .p (pi x.config.turns), .p (pi x.config.waiting), .p (pi x.config.first), .p (pi x.clock), .p (.sl 10 (x.queue.map Queued.row)), .p (pi x.sched.last), .p (pi x.sched.hand), .p (.sl 1 (x.sched.had.map (fun n => [pi n]))), .p (.sl 20 (x.out.map Sent.row)), .p (.sl 7 (x.paths.map Path.row)), .p (pi x.cum), .p (pi x.next), .p (pi x.room), .p (.sl 1 (x.mids.map (fun n => [pi n]))), .p (.sl 1 (x.fates.map (fun n => [pi n]))), .p (pb x.forward), .p (pi x.recover)]
def Sender.hv (x : Sender) : HV := .agg [.p (pi x.config.streams), .p (pi x.config.part), .p (pi x.config.packet), .p (pi x.config.paths), .p (pi x.config.turns), .p (pi x.config.waiting), .p (pi x.config.first), .p (pi x.clock), .p (.sl 10 (x.queue.map Queued.row)), .p (pi x.sched.last), .p (pi x.sched.hand), .p (.sl 1 (x.sched.had.map (fun n => [pi n]))), .p (.sl 20 (x.out.map Sent.row)), .p (.sl 7 (x.paths.map Path.row)), .p (pi x.cum), .p (pi x.next), .p (pi x.room), .p (.sl 1 (x.mids.map (fun n => [pi n]))), .p (.sl 1 (x.fates.map (fun n => [pi n]))), .p (pb x.forward), .p (pi x.recover)]
structure Sender.Wf (x : Sender) : Prop where
  config : Config.Wf x.config
  clock : inI x.clock
  queue : ∀ y ∈ x.queue, Queued.Wf y
  sched : Sched.Wf x.sched
  out : ∀ y ∈ x.out, Sent.Wf y
  paths : ∀ y ∈ x.paths, Path.Wf y
  cum : inI x.cum
  next : inI x.next
  room : inI x.room
  mids : ∀ y ∈ x.mids, inI y
  fates : ∀ y ∈ x.fates, inI y
  recover : inI x.recover
structure Step where
  kind : Int
  n : Int
  message : Message
def Step.row (x : Step) : List PV := [pi x.kind, pi x.n, pi x.message.stream, pb x.message.ordered, pi x.message.life, pi x.message.tries, .sl 1 (x.message.data.map bRow)]
def Step.cells (x : Step) : List HV := [.p (pi x.kind), .p (pi x.n), .p (pi x.message.stream), .p (pb x.message.ordered), .p (pi x.message.life), .p (pi x.message.tries), .p (.sl 1 (x.message.data.map bRow))]
def Step.hv (x : Step) : HV := .agg [.p (pi x.kind), .p (pi x.n), .p (pi x.message.stream), .p (pb x.message.ordered), .p (pi x.message.life), .p (pi x.message.tries), .p (.sl 1 (x.message.data.map bRow))]
structure Step.Wf (x : Step) : Prop where
  kind : inI x.kind
  n : inI x.n
  message : Message.Wf x.message
theorem shp_Step {n : Nat} {pvs : List PV} (h : shp Try.prog n 70 pvs) : ∃ x : Step, pvs = x.row ∧ x.Wf := by
  have t0 := shp_struct Try.underlying70 h
  obtain ⟨a1, b1, e1, h1, t1⟩ := shpF_cons t0
  obtain ⟨a2, b2, e2, h2, t2⟩ := shpF_cons t1
  obtain ⟨a3, b3, e3, h3, t3⟩ := shpF_cons t2
  obtain ⟨z1, i1, w1⟩ := shp_int Try.underlying3 h1
  obtain ⟨z2, i2, w2⟩ := shp_int Try.underlying3 h2
  obtain ⟨z3, i3, w3⟩ := shp_Message h3
  have e4 : b3 = [] := t3
  rw [e1, e2, e3, e4, i1, i2, i3]
  exact ⟨⟨z1, z2, z3⟩, rfl, ⟨inI_of w1, inI_of w2, w3⟩⟩
end Go.HL
