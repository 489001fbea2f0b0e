/- The program's structs as Lean structures, and what a reading's shape says of them. -/
import Derived.Test.YtcphdjljojcpnaaHL
import Derived.Test.YtcphdjljojcpnaaProg
namespace Go.HL
open Go.Proofs
theorem mixed : Try.prog.follows .mixedOrders = true := by kernel_rfl

structure Path where
  window : Int
  slow : Int
  gathered : Int
  flight : Int
  errors : Int
  alarm : Int
  wait : Int
def Path.row (x : Path) : List PV := [pi x.window, pi x.slow, pi x.gathered, pi x.flight, pi x.errors, pi x.alarm, pi x.wait]
def Path.cells (x : Path) : List HV := [.p (pi x.window), .p (pi x.slow), .p (pi x.gathered), .p (pi x.flight), .p (pi x.errors), .p (pi x.alarm), .p (pi x.wait)]
def Path.hv (x : Path) : HV := .agg [.p (pi x.window), .p (pi x.slow), .p (pi x.gathered), .p (pi x.flight), .p (pi x.errors), .p (pi x.alarm), .p (pi x.wait)]
structure Path.Wf (x : Path) : Prop where
  window : inI x.window
  slow : inI x.slow
  gathered : inI x.gathered
  flight : inI x.flight
  errors : inI x.errors
  alarm : inI x.alarm
  wait : inI x.wait
theorem Path.row_len (x : Path) : x.row.length = 7 := rfl
theorem Path.row_map (x : Path) : .agg (x.row.map .p) = x.hv := rfl
theorem shp_Path {n : Nat} {pvs : List PV} (h : shp Try.prog n 23 pvs) : ∃ x : Path, pvs = x.row ∧ x.Wf := by
  have t0 := shp_struct Try.underlying23 h
  obtain ⟨a1, b1, e1, h1, t1⟩ := shpF_cons t0
  obtain ⟨a2, b2, e2, h2, t2⟩ := shpF_cons t1
  obtain ⟨a3, b3, e3, h3, t3⟩ := shpF_cons t2
  obtain ⟨a4, b4, e4, h4, t4⟩ := shpF_cons t3
  obtain ⟨a5, b5, e5, h5, t5⟩ := shpF_cons t4
  obtain ⟨a6, b6, e6, h6, t6⟩ := shpF_cons t5
  obtain ⟨a7, b7, e7, h7, t7⟩ := shpF_cons t6
  obtain ⟨z1, i1, w1⟩ := shp_int Try.underlying3 h1
  obtain ⟨z2, i2, w2⟩ := shp_int Try.underlying3 h2
  obtain ⟨z3, i3, w3⟩ := shp_int Try.underlying3 h3
  obtain ⟨z4, i4, w4⟩ := shp_int Try.underlying3 h4
  obtain ⟨z5, i5, w5⟩ := shp_int Try.underlying3 h5
  obtain ⟨z6, i6, w6⟩ := shp_int Try.underlying3 h6
  obtain ⟨z7, i7, w7⟩ := shp_int Try.underlying3 h7
  have e8 : b7 = [] := t7
  rw [e1, e2, e3, e4, e5, e6, e7, e8, i1, i2, i3, i4, i5, i6, i7]
  exact ⟨⟨z1, z2, z3, z4, z5, z6, z7⟩, rfl, ⟨inI_of w1, inI_of w2, inI_of w3, inI_of w4, inI_of w5, inI_of w6, inI_of w7⟩⟩
theorem arg_Path (x : Path) : argHV Try.prog 23 x.row = x.hv := by
  unfold argHV
  rw [Try.underlying23]
  rfl

structure Message where
  stream : Int
  ordered : Bool
  life : Int
  tries : Int
  data : List UInt8
def Message.row (x : Message) : List PV := [pi x.stream, pb x.ordered, pi x.life, pi x.tries, .sl 1 (x.data.map bRow)]
def Message.cells (x : Message) : List HV := [.p (pi x.stream), .p (pb x.ordered), .p (pi x.life), .p (pi x.tries), .p (.sl 1 (x.data.map bRow))]
def Message.hv (x : Message) : HV := .agg [.p (pi x.stream), .p (pb x.ordered), .p (pi x.life), .p (pi x.tries), .p (.sl 1 (x.data.map bRow))]
structure Message.Wf (x : Message) : Prop where
  stream : inI x.stream
  life : inI x.life
  tries : inI x.tries
theorem Message.row_len (x : Message) : x.row.length = 5 := rfl
theorem Message.row_map (x : Message) : .agg (x.row.map .p) = x.hv := rfl
theorem shp_Message {n : Nat} {pvs : List PV} (h : shp Try.prog n 40 pvs) : ∃ x : Message, pvs = x.row ∧ x.Wf := by
  have t0 := shp_struct Try.underlying40 h
  obtain ⟨a1, b1, e1, h1, t1⟩ := shpF_cons t0
  obtain ⟨a2, b2, e2, h2, t2⟩ := shpF_cons t1
  obtain ⟨a3, b3, e3, h3, t3⟩ := shpF_cons t2
  obtain ⟨a4, b4, e4, h4, t4⟩ := shpF_cons t3
  obtain ⟨a5, b5, e5, h5, t5⟩ := shpF_cons t4
  obtain ⟨z1, i1, w1⟩ := shp_int Try.underlying3 h1
  obtain ⟨z2, i2⟩ := shp_bool Try.underlying4 h2
  obtain ⟨z3, i3, w3⟩ := shp_int Try.underlying3 h3
  obtain ⟨z4, i4, w4⟩ := shp_int Try.underlying3 h4
  obtain ⟨z5, i5⟩ := shp_bytes Try.underlying38 Try.underlying5 (by kernel_rfl) h5
  have e6 : b5 = [] := t5
  rw [e1, e2, e3, e4, e5, e6, i1, i2, i3, i4, i5]
  exact ⟨⟨z1, z2, z3, z4, z5⟩, rfl, ⟨inI_of w1, inI_of w3, inI_of w4⟩⟩
theorem arg_Message (x : Message) : argHV Try.prog 40 x.row = x.hv := by
  unfold argHV
  rw [Try.underlying40]
  rfl

structure Queued where
  id : Int
  mid : Int
  came : Int
  sent : Int
  parts : Int
  message : Message
def Queued.row (x : Queued) : List PV := [pi x.id, pi x.mid, pi x.came, pi x.sent, pi x.parts, pi x.message.stream, pb x.message.ordered, pi x.message.life, pi x.message.tries, .sl 1 (x.message.data.map bRow)]
def Queued.cells (x : Queued) : List HV := [.p (pi x.id), .p (pi x.mid), .p (pi x.came), .p (pi x.sent), .p (pi x.parts), .p (pi x.message.stream), .p (pb x.message.ordered), .p (pi x.message.life), .p (pi x.message.tries), .p (.sl 1 (x.message.data.map bRow))]
def Queued.hv (x : Queued) : HV := .agg [.p (pi x.id), .p (pi x.mid), .p (pi x.came), .p (pi x.sent), .p (pi x.parts), .p (pi x.message.stream), .p (pb x.message.ordered), .p (pi x.message.life), .p (pi x.message.tries), .p (.sl 1 (x.message.data.map bRow))]
structure Queued.Wf (x : Queued) : Prop where
  id : inI x.id
  mid : inI x.mid
  came : inI x.came
  sent : inI x.sent
  parts : inI x.parts
  message : Message.Wf x.message
theorem Queued.row_len (x : Queued) : x.row.length = 10 := rfl
theorem Queued.row_map (x : Queued) : .agg (x.row.map .p) = x.hv := rfl
theorem shp_Queued {n : Nat} {pvs : List PV} (h : shp Try.prog n 42 pvs) : ∃ x : Queued, pvs = x.row ∧ x.Wf := by
  have t0 := shp_struct Try.underlying42 h
  obtain ⟨a1, b1, e1, h1, t1⟩ := shpF_cons t0
  obtain ⟨a2, b2, e2, h2, t2⟩ := shpF_cons t1
  obtain ⟨a3, b3, e3, h3, t3⟩ := shpF_cons t2
  obtain ⟨a4, b4, e4, h4, t4⟩ := shpF_cons t3
  obtain ⟨a5, b5, e5, h5, t5⟩ := shpF_cons t4
  obtain ⟨a6, b6, e6, h6, t6⟩ := shpF_cons t5
  obtain ⟨z1, i1, w1⟩ := shp_int Try.underlying3 h1
  obtain ⟨z2, i2, w2⟩ := shp_int Try.underlying3 h2
  obtain ⟨z3, i3, w3⟩ := shp_int Try.underlying3 h3
  obtain ⟨z4, i4, w4⟩ := shp_int Try.underlying3 h4
  obtain ⟨z5, i5, w5⟩ := shp_int Try.underlying3 h5
  obtain ⟨z6, i6, w6⟩ := shp_Message h6
  have e7 : b6 = [] := t6
  rw [e1, e2, e3, e4, e5, e6, e7, i1, i2, i3, i4, i5, i6]
  exact ⟨⟨z1, z2, z3, z4, z5, z6⟩, rfl, ⟨inI_of w1, inI_of w2, inI_of w3, inI_of w4, inI_of w5, w6⟩⟩
theorem arg_Queued (x : Queued) : argHV Try.prog 42 x.row = x.hv := by
  unfold argHV
  rw [Try.underlying42]
  rfl

structure Sched where
  last : Int
  hand : Int
  had : List Int
def Sched.row (x : Sched) : List PV := [pi x.last, pi x.hand, .sl 1 (x.had.map (fun n => [pi n]))]
def Sched.cells (x : Sched) : List HV := [.p (pi x.last), .p (pi x.hand), .p (.sl 1 (x.had.map (fun n => [pi n])))]
def Sched.hv (x : Sched) : HV := .agg [.p (pi x.last), .p (pi x.hand), .p (.sl 1 (x.had.map (fun n => [pi n])))]
structure Sched.Wf (x : Sched) : Prop where
  last : inI x.last
  hand : inI x.hand
  had : ∀ y ∈ x.had, inI y
theorem Sched.row_len (x : Sched) : x.row.length = 3 := rfl
theorem Sched.row_map (x : Sched) : .agg (x.row.map .p) = x.hv := rfl
theorem shp_Sched {n : Nat} {pvs : List PV} (h : shp Try.prog n 36 pvs) : ∃ x : Sched, pvs = x.row ∧ x.Wf := by
  have t0 := shp_struct Try.underlying36 h
  obtain ⟨a1, b1, e1, h1, t1⟩ := shpF_cons t0
  obtain ⟨a2, b2, e2, h2, t2⟩ := shpF_cons t1
  obtain ⟨a3, b3, e3, h3, t3⟩ := shpF_cons t2
  obtain ⟨z1, i1, w1⟩ := shp_int Try.underlying3 h1
  obtain ⟨z2, i2, w2⟩ := shp_int Try.underlying3 h2
  obtain ⟨z3, i3, w3⟩ := shp_ints Try.underlying31 Try.underlying3 (by kernel_rfl) h3
  have e4 : b3 = [] := t3
  rw [e1, e2, e3, e4, i1, i2, i3]
  exact ⟨⟨z1, z2, z3⟩, rfl, ⟨inI_of w1, inI_of w2, w3⟩⟩
theorem arg_Sched (x : Sched) : argHV Try.prog 36 x.row = x.hv := by
  unfold argHV
  rw [Try.underlying36]
  rfl

end Go.HL
