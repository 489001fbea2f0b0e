/- The sender as what it computes (plain). -/
import Derived.Test.YticmofoeecjnhaaPaths
import Derived.Test.YticmofoeecjnhaaSched
import Derived.Test.YticmofoeecjnhaaScore2
import Derived.Test.YticmofoeecjnhaaPacket2
namespace Go.HL
open Go.Proofs
namespace Snd
open Ser
set_option linter.unusedSimpArgs false
def newS (c : Config) : Sender := ⟨c, 0, [], Sch.new c.streams, [], List.replicate c.paths.toNat (Paths.new c.part), c.first - 1, c.first, 400, List.replicate (2 * c.streams).toNat 0, [], false, c.first - 1⟩
def noS : Sender := ⟨⟨0, 0, 0, 0, 0, 0, 0⟩, 0, [], ⟨0, 0, []⟩, [], [], 0, 0, 0, [], [], false, 0⟩
def sendErr (s : Sender) (m : Message) : Int :=
  if m.stream < 0 ∨ m.stream ≥ s.config.streams ∨ m.life < 0 ∨ m.life > 1000 ∨ m.tries < 0 ∨ m.tries > 1000 then 3 else
  if m.data.length < 1 ∨ m.data.length > 60 then 4 else if (s.queue.length : Int) ≥ s.config.waiting then 7 else 0
def sendS (s : Sender) (m : Message) : Sender := { s with queue := s.queue ++ [⟨s.fates.length, -1, s.clock, 0, 0, m⟩], fates := s.fates ++ [1] }
def flP (out : List Sent) (i : Nat) (p : Path) : Path := { p with flight := (Sco.fl i out : Nat) }
def flights (s : Sender) : Sender := { s with paths := s.paths.mapIdx fun i p => flP s.out i p }
def endOf (next : Int) (m : Queued) : Sent := ⟨next, m.id, 0, 0, 0, 0, 0, 0, 0, ⟨1, tag next, m.message.stream, tag m.mid, m.parts, true, m.message.ordered, [], [], 0, []⟩⟩
def end1 (id : Int) (s : Sender) (m : Queued) : Sender := if m.id = id ∧ m.parts > 0 then { s with out := s.out ++ [endOf s.next m], next := W (s.next + 1) } else s
def giveS (s : Sender) (id : Int) : Sender :=
  let t := s.queue.foldl (end1 id) { s with fates := s.fates.set id.toNat 3 }
  flights { t with queue := s.queue.filter fun m => decide (m.id ≠ id), sched := if s.sched.hand = id then { s.sched with hand := -1 } else s.sched, out := t.out.map (Sco.give id), forward := true }
def old (clock came life : Int) : Bool := decide (life > 0) && decide (W (clock - came) ≥ life)
def expQ (s : Sender) (m : Queued) : Sender := if old s.clock m.came m.message.life then giveS s m.id else s
def dueX (s : Sender) (x : Sent) : Bool := decide (s.fates[x.id.toNat]?.getD 0 = 1) && (decide (x.state ≠ 2) && (old s.clock x.came x.life || (decide (x.state = 3) && (decide (x.tries > 0) && decide (x.times > x.tries)))))
def expX (s : Sender) (x : Sent) : Sender := if dueX s x then giveS s x.id else s
def expire (s : Sender) : Sender := (s.queue.foldl expQ s).out.foldl expX (s.queue.foldl expQ s)
structure Pump where
  s : Sender
  out : List (List Chunk)
def flyX (x : Sent) (path : Int) : Sent := { x with state := 1, path := path, missed := 0, times := W (x.times + 1) }
def setAt {α : Type} (l : List α) (k : Nat) (f : α → α) : List α := match l[k]? with
  | none => l
  | some x => l.set k (f x)
def fly (p : Pump) (i path : Nat) : Pump := match p.s.out[i]? with
  | none => p
  | some x => ⟨{ p.s with out := p.s.out.set i (flyX x path), paths := setAt p.s.paths path fun a => { a with flight := W (a.flight + x.chunk.data.length) } }, setAt p.out path (· ++ [x.chunk])⟩
def opened (s : Sender) (path : Nat) : Bool := match s.paths[path]? with
  | none => false
  | some a => decide (a.flight < a.window)
def again1 (path : Nat) (p : Pump) (i : Nat) : Pump := match p.s.out[i]? with
  | none => p
  | some x => if x.state = 3 ∧ opened p.s path = true then fly p i path else p
def choose (s : Sender) : Nat := (Paths.chooseFrom 0 s.paths).toNat
def again (p : Pump) : Pump := (List.range p.s.out.length).foldl (again1 (choose p.s)) p
def flight (s : Sender) : Int := s.paths.foldl (fun n a => W (n + a.flight)) 0
def midAt (s : Sender) (m : Queued) : Nat := (m.message.stream + if m.message.ordered then 0 else s.config.streams).toNat
def midOf (s : Sender) (m : Queued) : Int := if m.mid < 0 then s.mids[midAt s m]?.getD 0 else m.mid
def midsOf (s : Sender) (m : Queued) : List Int := if m.mid < 0 then setAt s.mids (midAt s m) (fun n => W (n + 1)) else s.mids
def cut (s : Sender) (m : Queued) (n : Int) : Chunk := ⟨1, tag s.next, m.message.stream, tag (midOf s m), m.parts, decide (m.sent + n = m.message.data.length), m.message.ordered, (m.message.data.drop m.sent.toNat).take n.toNat, [], 0, []⟩
def many (s : Sender) (m : Queued) : Int := if (m.message.data.length : Int) - m.sent < s.config.part then (m.message.data.length : Int) - m.sent else s.config.part
def next1 (p : Pump) (k : Nat) (m : Queued) (n : Int) : Pump :=
  let over := decide (m.sent + n = m.message.data.length)
  let m' : Queued := { m with mid := midOf p.s m }
  let s := { p.s with mids := midsOf p.s m, sched := Sch.had p.s.sched m' n over, out := p.s.out ++ [⟨p.s.next, m.id, 0, 0, 0, 0, m.came, m.message.life, m.message.tries, cut p.s m n⟩], next := W (p.s.next + 1),
                      queue := if over then p.s.queue.eraseIdx k else p.s.queue.set k { m' with sent := m.sent + n, parts := W (m.parts + 1) } }
  fly ⟨s, p.out⟩ p.s.out.length (choose p.s)
def turnOf (s : Sender) : Int := Sch.next s.config.turns s.sched s.queue
def next (p : Pump) : Option Pump :=
  if turnOf p.s < 0 ∨ opened p.s (choose p.s) = false ∨ (p.s.out.length : Int) ≥ 60 then none else match p.s.queue[(turnOf p.s).toNat]? with
    | none => none
    | some m => if flight p.s > 0 ∧ W (flight p.s + many p.s m) > p.s.room then none else some (next1 p (turnOf p.s).toNat m (many p.s m))
def nexts : Nat → Pump → Pump
  | 0, p => p
  | n + 1, p => match next p with
    | none => p
    | some q => nexts n q
def alarm (s : Sender) (a : Path) : Path := if a.alarm = 0 then { a with alarm := W (s.clock + a.wait) } else a
def forward (p : Pump) : Pump := if p.s.forward = false ∨ (Sco.point p.s.out p.s.cum).1 = p.s.cum then p else
  ⟨{ p.s with forward := false, paths := setAt p.s.paths (choose p.s) (alarm p.s) }, setAt p.out (choose p.s) (· ++ [⟨3, tag (Sco.point p.s.out p.s.cum).1, 0, 0, 0, false, false, [], [], 0, (Sco.point p.s.out p.s.cum).2⟩])⟩
def room1 (most : Int) (l : List Chunk) : Int := if 1 > Pck.fitFrom most 0 0 l then 1 else Pck.fitFrom most 0 0 l
def pack1 (most : Int) (path : Int) (l : List Chunk) : List Packet := if (Pck.pbytes (l.take (room1 most l).toNat) most).2 = 0 then [⟨path, false, (Pck.pbytes (l.take (room1 most l).toNat) most).1⟩] else []
def packN (most : Int) (path : Int) : Nat → List Chunk → List Packet
  | 0, _ => []
  | n + 1, l => if l = [] then [] else pack1 most path l ++ packN most path n (l.drop (room1 most l).toNat)
def packFrom (most : Int) : Nat → List (List Chunk) → List Packet
  | _, [] => []
  | k, l :: r => packN most k l.length l ++ packFrom most (k + 1) r
def wake (s : Sender) (n : Int) (a : Path) : Path := if a.flight > 0 ∧ a.alarm = 0 then { a with alarm := W (s.clock + a.wait) } else if a.flight = 0 ∧ n = s.cum then { a with alarm := 0 } else a
def woken (s : Sender) : Sender := { s with paths := s.paths.map (wake s (Sco.point s.out s.cum).1) }
def pumpP (s : Sender) : Pump := nexts 61 (again (forward ⟨expire s, List.replicate s.paths.length []⟩))
def pump (s : Sender) : Sender × List Packet := (woken (pumpP s).s, packFrom s.config.packet 0 (pumpP s).out)
def settled (s : Sender) (id : Nat) (f : Int) : Int := if f = 1 ∧ (s.queue.any fun m => decide (m.id = (id : Int))) = false ∧ (s.out.any fun x => decide (x.id = (id : Int)) && decide (x.state ≠ 2)) = false then 2 else f
def settle (s : Sender) : Sender := { s with fates := s.fates.mapIdx fun id f => settled s id f }
def heard (s : Sender) (c : Chunk) : Sender :=
  let k := Sco.sack s.out s.cum c s.paths.length
  let moved := decide (k.2.1 > s.cum)
  let t := flights { s with out := k.1, cum := k.2.1, room := c.room, paths := s.paths.mapIdx fun i p => if k.2.2.1[i]?.getD 0 > 0 then Paths.acked p (k.2.2.1[i]?.getD 0) s.config.part moved else p }
  let u := match k.2.2.2.getLast? with
    | none => t
    | some z => if z > t.recover then { t with paths := setAt t.paths (choose t) fun p => Paths.halved p s.config.part, recover := W (t.next - 1) } else t
  settle (if moved = true ∧ (Sco.point u.out u.cum).1 > u.cum then { u with forward := true } else u)
def hear (s : Sender) (c : Chunk) : Sender := if c.kind ≠ 2 then s else if near s.cum c.tag < s.cum ∨ near s.cum c.tag > s.cum + s.out.length then s else heard s c
def late1 (part : Int) (s : Sender) (i : Nat) : Sender := match s.paths[i]? with
  | none => s
  | some p => if p.alarm = 0 ∨ s.clock < p.alarm then s else
    let t := { s with out := s.out.map (Sco.late i), paths := s.paths.set i (Paths.late p part) }
    if (Sco.point t.out t.cum).1 > t.cum then { t with forward := true } else t
def tick (s : Sender) : Sender := (List.range s.paths.length).foldl (late1 s.config.part) { s with clock := W (s.clock + 1) }
def calm (s : Sender) : Bool := decide (s.queue.length = 0) && decide (s.out.length = 0)
end Snd
end Go.HL
