/- The sender: its cells, copies, what is asked of them. -/
import Derived.Test.YticmofoeecjnhaaClone
import Derived.Test.YticmofoeecjnhaaSndP
namespace Go.HL
open Go.Proofs
namespace Snd
open Ser
set_option maxHeartbeats 4000000
set_option maxRecDepth 100000
set_option linter.unusedSimpArgs false
abbrev rowQ (l : List Queued) : HSlot := .live (.row 112 10 (l.map Queued.row))
abbrev rowX (l : List Sent) : HSlot := .live (.row 145 20 (l.map Sent.row))
abbrev rowW (l : List Path) : HSlot := .live (.row 109 7 (l.map Path.row))
abbrev rowT (l : List Int) : HSlot := .live (.row 3 1 (l.map fun n => [pi n]))
abbrev rowK (l : List Chunk) : HSlot := .live (.row 29 11 (l.map Chunk.row))
abbrev pths (l : List Path) : HV := .p (.sl 7 (l.map Path.row))
def sndC (s : Sender) (q h o p m f : HV) : List HV := [i64 s.config.streams, i64 s.config.part, i64 s.config.packet, i64 s.config.paths, i64 s.config.turns, i64 s.config.waiting, i64 s.config.first, i64 s.clock, q, i64 s.sched.last, i64 s.sched.hand, h, o, p, i64 s.cum, i64 s.next, i64 s.room, m, f, hbool s.forward, i64 s.recover]
def pmpC (s : Sender) (q h o p m f x : HV) : List HV := [i64 s.config.streams, i64 s.config.part, i64 s.config.packet, i64 s.config.paths, i64 s.config.turns, i64 s.config.waiting, i64 s.config.first, i64 s.clock, q, i64 s.sched.last, i64 s.sched.hand, h, o, p, i64 s.cum, i64 s.next, i64 s.room, m, f, hbool s.forward, i64 s.recover, x]
abbrev sndO (s : Sender) (a b c d e f : Nat) : HV := .agg (sndC s (.own a) (.own b) (.own c) (.own d) (.own e) (.own f))
abbrev sndB (s : Sender) (a b c d e f : Nat) (L : List (Nat × HSlot)) : List (Nat × HSlot) := (a, rowQ s.queue) :: (b, rowT s.sched.had) :: (c, rowX s.out) :: (d, rowW s.paths) :: (e, rowT s.mids) :: (f, rowT s.fates) :: L
abbrev snG0 (s : Sender) (q h o p m f : Nat) (L : List (Nat × HSlot)) : List (Nat × HSlot) := (1000000, .live (.cells 62 (sndC s (.own q) (.own h) (.own o) (.own p) (.own m) (.own f)))) :: sndB s q h o p m f L
abbrev snG1 (s : Sender) (a : List Chunk) (q h o p m f x c : Nat) (L : List (Nat × HSlot)) : List (Nat × HSlot) := (1000000, .live (.cells 120 (pmpC s (.own q) (.own h) (.own o) (.own p) (.own m) (.own f) (.own x)))) :: sndB s q h o p m f ((x, .live (.cells 24 [.own c])) :: (c, rowK a) :: L)
abbrev snG2 (s : Sender) (a b : List Chunk) (q h o p m f x c d : Nat) (L : List (Nat × HSlot)) : List (Nat × HSlot) := (1000000, .live (.cells 120 (pmpC s (.own q) (.own h) (.own o) (.own p) (.own m) (.own f) (.own x)))) :: sndB s q h o p m f ((x, .live (.cells 24 [.own c, .own d])) :: (c, rowK a) :: (d, rowK b) :: L)
abbrev snG3 (s : Sender) (q h o p m f x : Nat) (L : List (Nat × HSlot)) : List (Nat × HSlot) := (1000000, .live (.cells 120 (pmpC s (.own q) (.own h) (.own o) (.own p) (.own m) (.own f) (.own x)))) :: sndB s q h o p m f ((x, .live (.cells 24 [hnil])) :: L)
abbrev snG4 (s : Sender) (q h o p m f x : Nat) (L : List (Nat × HSlot)) : List (Nat × HSlot) := (1000000, .live (.cells 120 (pmpC s (.own q) (.own h) (.own o) (.own p) (.own m) (.own f) (.own x)))) :: sndB s q h o p m f ((x, .live (.cells 24 [hnil, hnil])) :: L)
abbrev pH0 (s : Sender)  : List (Nat × HSlot) := snG0 s  1000001 1000002 1000003 1000004 1000005 1000006  []
abbrev pD0 (s : Sender)  : List (Nat × HSlot) := snG0 s  0 1 2 3 4 5 [(1000001, .dead), (1000002, .dead), (1000003, .dead), (1000004, .dead), (1000005, .dead), (1000006, .dead)]
abbrev pH1 (s : Sender) (a : List Chunk) : List (Nat × HSlot) := snG1 s a 1000001 1000002 1000003 1000004 1000005 1000006 1000007 1000008 []
abbrev pD1 (s : Sender) (a : List Chunk) : List (Nat × HSlot) := snG1 s a 0 1 2 3 4 5 1000007 6 [(1000001, .dead), (1000002, .dead), (1000003, .dead), (1000004, .dead), (1000005, .dead), (1000006, .dead), (1000008, .dead)]
abbrev pH2 (s : Sender) (a b : List Chunk) : List (Nat × HSlot) := snG2 s a b 1000001 1000002 1000003 1000004 1000005 1000006 1000007 1000008 1000009 []
abbrev pD2 (s : Sender) (a b : List Chunk) : List (Nat × HSlot) := snG2 s a b 0 1 2 3 4 5 1000007 6 7 [(1000001, .dead), (1000002, .dead), (1000003, .dead), (1000004, .dead), (1000005, .dead), (1000006, .dead), (1000008, .dead), (1000009, .dead)]
abbrev pH3 (s : Sender)  : List (Nat × HSlot) := snG3 s  1000001 1000002 1000003 1000004 1000005 1000006 1000007 []
abbrev pD3 (s : Sender)  : List (Nat × HSlot) := snG3 s  0 1 2 3 4 5 1000007 [(1000001, .dead), (1000002, .dead), (1000003, .dead), (1000004, .dead), (1000005, .dead), (1000006, .dead)]
abbrev pH4 (s : Sender)  : List (Nat × HSlot) := snG4 s  1000001 1000002 1000003 1000004 1000005 1000006 1000007 []
abbrev pD4 (s : Sender)  : List (Nat × HSlot) := snG4 s  0 1 2 3 4 5 1000007 [(1000001, .dead), (1000002, .dead), (1000003, .dead), (1000004, .dead), (1000005, .dead), (1000006, .dead)]
abbrev zeroS : List HV := [i64 0, i64 0, i64 0, i64 0, i64 0, i64 0, i64 0, i64 0, hnil, i64 0, i64 0, hnil, hnil, hnil, i64 0, i64 0, i64 0, hnil, hnil, hbool false, i64 0]
structure Fit (s : Sender) : Prop where
  queue : s.queue.length < 2 ^ 22
  had : s.sched.had.length < 2 ^ 22
  out : Sco.Sized s.out
  paths : s.paths.length < 2 ^ 22
  mids : s.mids.length < 2 ^ 22
  fates : s.fates.length < 2 ^ 30
  data : ∀ m ∈ s.queue, m.message.data.length < 2 ^ 38
theorem spec_own (s : Sender) (hs : Fit s) : FunOK Try.prog 52 [s.hv] noHeap (sndO s 0 1 2 3 4 5) (lk .free (sndB s 0 1 2 3 4 5 [])) := by
  obtain ⟨h1, h2, h3, h4, h5, h6, h7⟩ := hs
  refine funOK_of mixed Try.func52 (by decide) [] (fun _ => .inl rfl) ?_
  conv => whnf
  refine ⟨{ x : List Queued × List Queued // s.queue = x.1 ++ x.2 }, fun | ⟨(A, B), _⟩ => hs 47 [(1, .ptr 1 0), (2, .ptr 2 0), (3, .own 900), (7, Sch.qs s.queue), (8, i64 s.queue.length), (9, i64 A.length)] [(1, .live (.cells 62 (sndC s (Sch.qs s.queue) (ints s.sched.had) (Sco.sents s.out) (pths s.paths) (ints s.mids) (ints s.fates)))), (2, .live (.cells 62 zeroS)), (900, rowQ A)], fun x => x.1.2.length, ⟨([], s.queue), rfl⟩, ?_, ?_⟩
  · exact (hle_Q [(1, some 1), (2, some 2), (900, none)])
  rintro ⟨⟨A, B⟩, h⟩
  dsimp only at h
  conv => whnf
  cases B with
  | cons p B =>
    have hz := zip_cons h
    have hp := h7 p (zip_mem h)
    ((refine hif_T ?_; conv => whnf); try (refine hcut.go ?_; conv => whnf))
    refine hrow_mid h rfl ?_; conv => whnf
    ((refine hcall_own [(0, 16)]  ?_; (conv => whnf); refine ⟨_, _,  Cl.clone_bytes p.message.data (by omega), ⟨⟨⟨rfl, rfl⟩, trivial⟩, rfl, rfl, rfl⟩, ?_⟩; conv => whnf); try (refine hcut.go ?_; conv => whnf))
    refine hobl_intro (c := ((A.map Queued.row).length + 1) * 96 ≤ 140737488355328) (by simp; omega) ?_; conv => whnf
    ((refine hwrap_F ?_; conv => whnf); try (refine hcut.go ?_; conv => whnf))
    refine ⟨⟨(A ++ [p], B), zip_next h⟩, (hle_Q [(1, some 1), (2, some 2), (900, some 22)] (by repeat' (first | exact trivial | exact rfl | (refine ⟨⟨rfl, ?_⟩, ?_⟩) | (refine ⟨rfl, ?_⟩) | ((exact row_app (f := Queued.row) rfl rfl)) | (simp; done) | (simp; rfl))) (by repeat' (first | exact trivial | exact rfl | exact .inl rfl | exact .inr rfl | (refine ⟨⟨rfl, .inl ⟨_, rfl, ?_⟩⟩, ?_⟩) | (refine ⟨⟨rfl, _, rfl, ?_⟩, ?_⟩) | (refine ⟨⟨rfl, .inr ⟨rfl, ?_⟩⟩, ?_⟩) | (refine ⟨rfl, ?_⟩) | ((exact row_app (f := Queued.row) rfl rfl)) | (simp; done) | (simp; rfl)))), by simp⟩
  | nil =>
    have hz := zip_nil h
    rw [List.append_nil] at h
    ((refine hif_F ?_; conv => whnf); try (refine hcut.go ?_; conv => whnf))
    ((refine hcall_own [(0, 27)]  ?_; (conv => whnf); refine ⟨_, _,  Sch.spec_own s.sched (by omega), ⟨⟨⟨rfl, rfl⟩, trivial⟩, rfl, rfl, rfl⟩, ?_⟩; conv => whnf); try (refine hcut.go ?_; conv => whnf))
    ((refine hcall_own [(0, 30)]  ?_; (conv => whnf); refine ⟨_, _,  Sco.spec_own s.out h3, ⟨⟨⟨rfl, rfl⟩, trivial⟩, rfl, rfl, rfl⟩, ?_⟩; conv => whnf); try (refine hcut.go ?_; conv => whnf))
    ((refine hdraw_intro ?_ ?_; (· kernel_rfl); conv => whnf); try (refine hcut.go ?_; conv => whnf))
    ((refine hcall_own [(0, 36)]  ?_; (conv => whnf); refine ⟨_, _,  Cl.clone_paths s.paths (by omega), ⟨⟨⟨rfl, rfl⟩, trivial⟩, rfl, rfl, rfl⟩, ?_⟩; conv => whnf); try (refine hcut.go ?_; conv => whnf))
    ((refine hcall_own [(0, 39)]  ?_; (conv => whnf); refine ⟨_, _,  Cl.clone_ints s.mids (by omega), ⟨⟨⟨rfl, rfl⟩, trivial⟩, rfl, rfl, rfl⟩, ?_⟩; conv => whnf); try (refine hcut.go ?_; conv => whnf))
    ((refine hcall_own [(0, 42)]  ?_; (conv => whnf); refine ⟨_, _,  Cl.clone_ints s.fates (by omega), ⟨⟨⟨rfl, rfl⟩, trivial⟩, rfl, rfl, rfl⟩, ?_⟩; conv => whnf); try (refine hcut.go ?_; conv => whnf))
    ((refine hdraw_intro ?_ ?_; (· kernel_rfl); conv => whnf); try (refine hcut.go ?_; conv => whnf))
    refine hfin_of [(0, some 900), (1, some 27), (2, some 30), (3, some 36), (4, some 39), (5, some 42)] rfl rfl trivial rfl rfl ⟨⟨rfl, .inl ⟨900, rfl, ?_⟩⟩, ⟨rfl, .inl ⟨27, rfl, rfl⟩⟩, ⟨rfl, .inl ⟨30, rfl, rfl⟩⟩, ⟨rfl, .inl ⟨36, rfl, rfl⟩⟩, ⟨rfl, .inl ⟨39, rfl, rfl⟩⟩, ⟨rfl, .inl ⟨42, rfl, rfl⟩⟩, trivial⟩
    exact row_eqs (by rw [h])
theorem spec_old3 (s : Sender)  (came life : Int) : FunOK Try.prog 85 [.ptr 1000000 0, i64 came, i64 life] (lk .free (pH3 s )) (hbool (old s.clock came life)) (lk .free (pH3 s )) := by
  refine funOK_of mixed Try.func85 (by decide) [1000000, 1000001, 1000002, 1000003, 1000004, 1000005, 1000006, 1000007] lk_pins ?_
  conv => whnf
  by_cases c1 : life > 0
  · ((refine hif_T ?_; conv => whnf); try (refine hcut.go ?_; conv => whnf))
    ((first | refine hwrap_W ?_ | refine hwrap_raw ?_); (conv => whnf); try (refine hcut.go ?_; conv => whnf))
    try ((refine hif_T ?_; conv => whnf); try (refine hcut.go ?_; conv => whnf))
    (exact hfin_P [(1000000, some 1000000), (1000001, some 1000001), (1000002, some 1000002), (1000003, some 1000003), (1000004, some 1000004), (1000005, some 1000005), (1000006, some 1000006), (1000007, some 1000007)] (by first | rfl | ((simp [old, c1]; rfl)) | ((simp [old, c1])) ) (by repeat' (first | exact trivial | exact rfl | exact .inl rfl | exact .inr rfl | (refine ⟨⟨rfl, .inl ⟨_, rfl, ?_⟩⟩, ?_⟩) | (refine ⟨⟨rfl, _, rfl, ?_⟩, ?_⟩) | (refine ⟨⟨rfl, .inr ⟨rfl, ?_⟩⟩, ?_⟩) | (refine ⟨rfl, ?_⟩) | ((simp [old, c1]; rfl)) | ((simp [old, c1])) | (simp; done) | (simp; rfl))))
  · ((refine hif_F ?_; conv => whnf); try (refine hcut.go ?_; conv => whnf))
    try ((refine hif_F ?_; conv => whnf); try (refine hcut.go ?_; conv => whnf))
    (exact hfin_P [(1000000, some 1000000), (1000001, some 1000001), (1000002, some 1000002), (1000003, some 1000003), (1000004, some 1000004), (1000005, some 1000005), (1000006, some 1000006), (1000007, some 1000007)] (by first | rfl | ((simp [old, c1]; rfl)) | ((simp [old, c1])) ) (by repeat' (first | exact trivial | exact rfl | exact .inl rfl | exact .inr rfl | (refine ⟨⟨rfl, .inl ⟨_, rfl, ?_⟩⟩, ?_⟩) | (refine ⟨⟨rfl, _, rfl, ?_⟩, ?_⟩) | (refine ⟨⟨rfl, .inr ⟨rfl, ?_⟩⟩, ?_⟩) | (refine ⟨rfl, ?_⟩) | ((simp [old, c1]; rfl)) | ((simp [old, c1])) | (simp; done) | (simp; rfl))))
theorem spec_old4 (s : Sender)  (came life : Int) : FunOK Try.prog 85 [.ptr 1000000 0, i64 came, i64 life] (lk .free (pH4 s )) (hbool (old s.clock came life)) (lk .free (pH4 s )) := by
  refine funOK_of mixed Try.func85 (by decide) [1000000, 1000001, 1000002, 1000003, 1000004, 1000005, 1000006, 1000007] lk_pins ?_
  conv => whnf
  by_cases c1 : life > 0
  · ((refine hif_T ?_; conv => whnf); try (refine hcut.go ?_; conv => whnf))
    ((first | refine hwrap_W ?_ | refine hwrap_raw ?_); (conv => whnf); try (refine hcut.go ?_; conv => whnf))
    try ((refine hif_T ?_; conv => whnf); try (refine hcut.go ?_; conv => whnf))
    (exact hfin_P [(1000000, some 1000000), (1000001, some 1000001), (1000002, some 1000002), (1000003, some 1000003), (1000004, some 1000004), (1000005, some 1000005), (1000006, some 1000006), (1000007, some 1000007)] (by first | rfl | ((simp [old, c1]; rfl)) | ((simp [old, c1])) ) (by repeat' (first | exact trivial | exact rfl | exact .inl rfl | exact .inr rfl | (refine ⟨⟨rfl, .inl ⟨_, rfl, ?_⟩⟩, ?_⟩) | (refine ⟨⟨rfl, _, rfl, ?_⟩, ?_⟩) | (refine ⟨⟨rfl, .inr ⟨rfl, ?_⟩⟩, ?_⟩) | (refine ⟨rfl, ?_⟩) | ((simp [old, c1]; rfl)) | ((simp [old, c1])) | (simp; done) | (simp; rfl))))
  · ((refine hif_F ?_; conv => whnf); try (refine hcut.go ?_; conv => whnf))
    try ((refine hif_F ?_; conv => whnf); try (refine hcut.go ?_; conv => whnf))
    (exact hfin_P [(1000000, some 1000000), (1000001, some 1000001), (1000002, some 1000002), (1000003, some 1000003), (1000004, some 1000004), (1000005, some 1000005), (1000006, some 1000006), (1000007, some 1000007)] (by first | rfl | ((simp [old, c1]; rfl)) | ((simp [old, c1])) ) (by repeat' (first | exact trivial | exact rfl | exact .inl rfl | exact .inr rfl | (refine ⟨⟨rfl, .inl ⟨_, rfl, ?_⟩⟩, ?_⟩) | (refine ⟨⟨rfl, _, rfl, ?_⟩, ?_⟩) | (refine ⟨⟨rfl, .inr ⟨rfl, ?_⟩⟩, ?_⟩) | (refine ⟨rfl, ?_⟩) | ((simp [old, c1]; rfl)) | ((simp [old, c1])) | (simp; done) | (simp; rfl))))
theorem spec_flight1 (s : Sender) (a : List Chunk) (h4 : s.paths.length < 2 ^ 22) : FunOK Try.prog 91 [.ptr 1000000 0] (lk .free (pH1 s a)) (i64 (flight s)) (lk .free (pH1 s a)) := by
  refine funOK_of mixed Try.func91 (by decide) [1000000, 1000001, 1000002, 1000003, 1000004, 1000005, 1000006, 1000007, 1000008] lk_pins ?_
  conv => whnf
  refine ⟨{ x : List Path × List Path // s.paths = x.1 ++ x.2 }, fun | ⟨(A, B), _⟩ => hsP [1000000, 1000001, 1000002, 1000003, 1000004, 1000005, 1000006, 1000007, 1000008] 22 [(3, i64 (A.foldl (fun n a => W (n + a.flight)) 0)), (10, .own 1000004), (11, i64 s.paths.length), (12, i64 A.length)] (pH1 s a), fun x => x.1.2.length, ⟨([], s.paths), rfl⟩, ?_, ?_⟩
  · exact (hle_P [(1000000, some 1000000), (1000001, some 1000001), (1000002, some 1000002), (1000003, some 1000003), (1000004, some 1000004), (1000005, some 1000005), (1000006, some 1000006), (1000007, some 1000007), (1000008, some 1000008)] (by repeat' (first | exact trivial | exact rfl | (refine ⟨⟨rfl, ?_⟩, ?_⟩) | (refine ⟨rfl, ?_⟩) | ((exact i64_eq (by (first | omega | (simp only [List.length_map, List.length_append, List.length_take, List.length_drop, List.length_cons, List.length_nil] <;> omega) | (simp <;> omega))))) | (simp; done) | (simp; rfl))) (by repeat' (first | exact trivial | exact rfl | exact .inl rfl | exact .inr rfl | (refine ⟨⟨rfl, .inl ⟨_, rfl, ?_⟩⟩, ?_⟩) | (refine ⟨⟨rfl, _, rfl, ?_⟩, ?_⟩) | (refine ⟨⟨rfl, .inr ⟨rfl, ?_⟩⟩, ?_⟩) | (refine ⟨rfl, ?_⟩) | ((exact i64_eq (by (first | omega | (simp only [List.length_map, List.length_append, List.length_take, List.length_drop, List.length_cons, List.length_nil] <;> omega) | (simp <;> omega))))) | (simp; done) | (simp; rfl))))
  rintro ⟨⟨A, B⟩, h⟩
  dsimp only at h
  conv => whnf
  cases B with
  | cons p B =>
    have hz := zip_cons h
    ((refine hif_T ?_; conv => whnf); try (refine hcut.go ?_; conv => whnf))
    ((refine hobl_O ?_; conv => whnf); try (refine hcut.go ?_; conv => whnf))
    refine hrow_mid h rfl ?_; conv => whnf
    ((first | refine hwrap_W ?_ | refine hwrap_raw ?_); (conv => whnf); try (refine hcut.go ?_; conv => whnf))
    ((refine hwrap_F ?_; conv => whnf); try (refine hcut.go ?_; conv => whnf))
    exact ⟨⟨(A ++ [p], B), zip_next h⟩, (hle_P [(1000000, some 1000000), (1000001, some 1000001), (1000002, some 1000002), (1000003, some 1000003), (1000004, some 1000004), (1000005, some 1000005), (1000006, some 1000006), (1000007, some 1000007), (1000008, some 1000008)] (by repeat' (first | exact trivial | exact rfl | (refine ⟨⟨rfl, ?_⟩, ?_⟩) | (refine ⟨rfl, ?_⟩) | ((exact i64_eq (by rw [List.foldl_append]; rfl))) | (simp; done) | (simp; rfl))) (by repeat' (first | exact trivial | exact rfl | exact .inl rfl | exact .inr rfl | (refine ⟨⟨rfl, .inl ⟨_, rfl, ?_⟩⟩, ?_⟩) | (refine ⟨⟨rfl, _, rfl, ?_⟩, ?_⟩) | (refine ⟨⟨rfl, .inr ⟨rfl, ?_⟩⟩, ?_⟩) | (refine ⟨rfl, ?_⟩) | ((exact i64_eq (by rw [List.foldl_append]; rfl))) | (simp; done) | (simp; rfl)))), by simp⟩
  | nil =>
    have hz := zip_nil h
    rw [List.append_nil] at h
    ((refine hif_F ?_; conv => whnf); try (refine hcut.go ?_; conv => whnf))
    (exact hfin_P [(1000000, some 1000000), (1000001, some 1000001), (1000002, some 1000002), (1000003, some 1000003), (1000004, some 1000004), (1000005, some 1000005), (1000006, some 1000006), (1000007, some 1000007), (1000008, some 1000008)] (by first | rfl | ((rw [flight, h]; rfl)) ) (by repeat' (first | exact trivial | exact rfl | exact .inl rfl | exact .inr rfl | (refine ⟨⟨rfl, .inl ⟨_, rfl, ?_⟩⟩, ?_⟩) | (refine ⟨⟨rfl, _, rfl, ?_⟩, ?_⟩) | (refine ⟨⟨rfl, .inr ⟨rfl, ?_⟩⟩, ?_⟩) | (refine ⟨rfl, ?_⟩) | ((rw [flight, h]; rfl)) | (simp; done) | (simp; rfl))))
theorem spec_flight2 (s : Sender) (a b : List Chunk) (h4 : s.paths.length < 2 ^ 22) : FunOK Try.prog 91 [.ptr 1000000 0] (lk .free (pH2 s a b)) (i64 (flight s)) (lk .free (pH2 s a b)) := by
  refine funOK_of mixed Try.func91 (by decide) [1000000, 1000001, 1000002, 1000003, 1000004, 1000005, 1000006, 1000007, 1000008, 1000009] lk_pins ?_
  conv => whnf
  refine ⟨{ x : List Path × List Path // s.paths = x.1 ++ x.2 }, fun | ⟨(A, B), _⟩ => hsP [1000000, 1000001, 1000002, 1000003, 1000004, 1000005, 1000006, 1000007, 1000008, 1000009] 22 [(3, i64 (A.foldl (fun n a => W (n + a.flight)) 0)), (10, .own 1000004), (11, i64 s.paths.length), (12, i64 A.length)] (pH2 s a b), fun x => x.1.2.length, ⟨([], s.paths), rfl⟩, ?_, ?_⟩
  · exact (hle_P [(1000000, some 1000000), (1000001, some 1000001), (1000002, some 1000002), (1000003, some 1000003), (1000004, some 1000004), (1000005, some 1000005), (1000006, some 1000006), (1000007, some 1000007), (1000008, some 1000008), (1000009, some 1000009)] (by repeat' (first | exact trivial | exact rfl | (refine ⟨⟨rfl, ?_⟩, ?_⟩) | (refine ⟨rfl, ?_⟩) | ((exact i64_eq (by (first | omega | (simp only [List.length_map, List.length_append, List.length_take, List.length_drop, List.length_cons, List.length_nil] <;> omega) | (simp <;> omega))))) | (simp; done) | (simp; rfl))) (by repeat' (first | exact trivial | exact rfl | exact .inl rfl | exact .inr rfl | (refine ⟨⟨rfl, .inl ⟨_, rfl, ?_⟩⟩, ?_⟩) | (refine ⟨⟨rfl, _, rfl, ?_⟩, ?_⟩) | (refine ⟨⟨rfl, .inr ⟨rfl, ?_⟩⟩, ?_⟩) | (refine ⟨rfl, ?_⟩) | ((exact i64_eq (by (first | omega | (simp only [List.length_map, List.length_append, List.length_take, List.length_drop, List.length_cons, List.length_nil] <;> omega) | (simp <;> omega))))) | (simp; done) | (simp; rfl))))
  rintro ⟨⟨A, B⟩, h⟩
  dsimp only at h
  conv => whnf
  cases B with
  | cons p B =>
    have hz := zip_cons h
    ((refine hif_T ?_; conv => whnf); try (refine hcut.go ?_; conv => whnf))
    ((refine hobl_O ?_; conv => whnf); try (refine hcut.go ?_; conv => whnf))
    refine hrow_mid h rfl ?_; conv => whnf
    ((first | refine hwrap_W ?_ | refine hwrap_raw ?_); (conv => whnf); try (refine hcut.go ?_; conv => whnf))
    ((refine hwrap_F ?_; conv => whnf); try (refine hcut.go ?_; conv => whnf))
    exact ⟨⟨(A ++ [p], B), zip_next h⟩, (hle_P [(1000000, some 1000000), (1000001, some 1000001), (1000002, some 1000002), (1000003, some 1000003), (1000004, some 1000004), (1000005, some 1000005), (1000006, some 1000006), (1000007, some 1000007), (1000008, some 1000008), (1000009, some 1000009)] (by repeat' (first | exact trivial | exact rfl | (refine ⟨⟨rfl, ?_⟩, ?_⟩) | (refine ⟨rfl, ?_⟩) | ((exact i64_eq (by rw [List.foldl_append]; rfl))) | (simp; done) | (simp; rfl))) (by repeat' (first | exact trivial | exact rfl | exact .inl rfl | exact .inr rfl | (refine ⟨⟨rfl, .inl ⟨_, rfl, ?_⟩⟩, ?_⟩) | (refine ⟨⟨rfl, _, rfl, ?_⟩, ?_⟩) | (refine ⟨⟨rfl, .inr ⟨rfl, ?_⟩⟩, ?_⟩) | (refine ⟨rfl, ?_⟩) | ((exact i64_eq (by rw [List.foldl_append]; rfl))) | (simp; done) | (simp; rfl)))), by simp⟩
  | nil =>
    have hz := zip_nil h
    rw [List.append_nil] at h
    ((refine hif_F ?_; conv => whnf); try (refine hcut.go ?_; conv => whnf))
    (exact hfin_P [(1000000, some 1000000), (1000001, some 1000001), (1000002, some 1000002), (1000003, some 1000003), (1000004, some 1000004), (1000005, some 1000005), (1000006, some 1000006), (1000007, some 1000007), (1000008, some 1000008), (1000009, some 1000009)] (by first | rfl | ((rw [flight, h]; rfl)) ) (by repeat' (first | exact trivial | exact rfl | exact .inl rfl | exact .inr rfl | (refine ⟨⟨rfl, .inl ⟨_, rfl, ?_⟩⟩, ?_⟩) | (refine ⟨⟨rfl, _, rfl, ?_⟩, ?_⟩) | (refine ⟨⟨rfl, .inr ⟨rfl, ?_⟩⟩, ?_⟩) | (refine ⟨rfl, ?_⟩) | ((rw [flight, h]; rfl)) | (simp; done) | (simp; rfl))))
end Snd
namespace Sco
open Ser
set_option maxHeartbeats 4000000
set_option maxRecDepth 100000
set_option linter.unusedSimpArgs false
theorem spec_pointG (l : List Sent) (cum : Int) (hl : l.length < 2 ^ 38) : FunOK Try.prog 58 [.own 1000000, i64 cum] (lk .free [(1000000, sentB l)]) (.tup [i64 (point l cum).1, .own 0]) (lk .free [(1000000, sentB l), (0, .ro (.row 100 3 ((point l cum).2.map Skip.row)))]) := by
  refine funOK_of mixed Try.func58 (by decide) [1000000] lk_pins ?_
  generalize hR : point l cum = R
  conv => whnf
  refine hcut.meet PUnit (fun _ => hsP [1000000] 47 [(1, i64 R.1), (6, .own 900)] [(1000000, sentB l), (900, .ro (.row 100 3 (R.2.map Skip.row)))]) ?_ ?_
  · conv => whnf
    refine ⟨{ x : List Sent × List Sent × Int × List Skip // l = x.1 ++ x.2.1 ∧ x.2.2.2.length ≤ 8 ∧ pointFrom x.2.2.1 x.2.2.2 x.2.1 = R }, fun | ⟨(a, b, z, sk), _⟩ => hsP [1000000] 47 [(1, i64 z), (6, .own 900), (10, .own 1000000), (11, i64 l.length), (12, i64 a.length)] [(1000000, sentB l), (900, skipB sk)], fun x => x.1.2.1.length, ⟨([], l, cum, []), rfl, by simp, hR⟩, ?_, ?_⟩
    · exact (hle_P [(1000000, some 1000000), (900, none)] (by repeat' (first | exact trivial | exact rfl | (refine ⟨⟨rfl, ?_⟩, ?_⟩) | (refine ⟨rfl, ?_⟩) | ((exact i64_eq (by (first | omega | (simp only [List.length_map, List.length_append, List.length_take, List.length_drop, List.length_cons, List.length_nil] <;> omega) | (simp <;> omega))))) | (simp; done) | (simp; rfl))) (by repeat' (first | exact trivial | exact rfl | exact .inl rfl | exact .inr rfl | (refine ⟨⟨rfl, .inl ⟨_, rfl, ?_⟩⟩, ?_⟩) | (refine ⟨⟨rfl, _, rfl, ?_⟩, ?_⟩) | (refine ⟨⟨rfl, .inr ⟨rfl, ?_⟩⟩, ?_⟩) | (refine ⟨rfl, ?_⟩) | ((exact i64_eq (by (first | omega | (simp only [List.length_map, List.length_append, List.length_take, List.length_drop, List.length_cons, List.length_nil] <;> omega) | (simp <;> omega))))) | (simp; done) | (simp; rfl))))
    rintro ⟨⟨a, b, z, sk⟩, h, hsk, hi⟩
    dsimp only at h hsk hi
    cases b with
    | nil =>
      have hz := zip_nil h
      simp only [pointFrom] at hi
      subst hi
      conv => whnf
      ((refine hif_F ?_; conv => whnf); try (refine hcut.go ?_; conv => whnf))
      exact ⟨⟨⟩, (hle_P [(1000000, some 1000000), (900, some 900)])⟩
    | cons s b =>
      have hz := zip_cons h
      simp only [pointFrom] at hi
      conv => whnf
      ((refine hif_T ?_; conv => whnf); try (refine hcut.go ?_; conv => whnf))
      ((refine hobl_O ?_; conv => whnf); try (refine hcut.go ?_; conv => whnf))
      refine hrow_mid h rfl ?_; conv => whnf
      ((first | refine hwrap_W ?_ | refine hwrap_raw ?_); (conv => whnf); try (refine hcut.go ?_; conv => whnf))
      refine hif_intro (fun c1 => ?_) (fun c1 => ?_)
      · have c1 : s.number ≠ W (z + 1) := by simpa using c1
        rw [if_pos (.inl c1)] at hi
        subst hi
        conv => whnf
        exact ⟨⟨⟩, (hle_P [(1000000, some 1000000), (900, some 900)])⟩
      have c1 : ¬ s.number ≠ W (z + 1) := by simpa using c1
      conv => whnf
      have sl := skip_len s.chunk sk
      by_cases c2 : s.state = 4
      · rw [if_neg (by rintro (h1 | h1); exact c1 h1; exact h1.1 c2), if_pos c2] at hi
        ((refine hif_F ?_; conv => whnf); try (refine hcut.go ?_; conv => whnf))
        (try (refine hcut.go ?_; conv => whnf))
        ((refine hif_T ?_; conv => whnf); try (refine hcut.go ?_; conv => whnf))
        ((refine hcall_own [(0, 37)]  ?_; (conv => whnf); refine ⟨_, _,  spec_skip sk s.chunk (by omega), ⟨⟨⟨rfl, rfl⟩, trivial⟩, rfl, rfl, rfl⟩, ?_⟩; conv => whnf); try (refine hcut.go ?_; conv => whnf))
        refine hif_intro (fun c3 => ?_) (fun c3 => ?_)
        · have c3 : (skip s.chunk sk).length > 8 := by simp at c3; omega
          rw [if_pos c3] at hi
          subst hi
          conv => whnf
          exact ⟨⟨⟩, (hle_P [(1000000, some 1000000), (900, some 900)])⟩
        · have c3 : ¬ (skip s.chunk sk).length > 8 := by simp at c3; omega
          rw [if_neg c3] at hi
          conv => whnf
          ((refine hwrap_F ?_; conv => whnf); try (refine hcut.go ?_; conv => whnf))
          exact ⟨⟨(a ++ [s], b, s.number, skip s.chunk sk), zip_next h, by dsimp only; omega, hi⟩, (hle_P [(1000000, some 1000000), (900, some 37)]), by simp⟩
      · by_cases c3 : s.state = 2
        · rw [if_neg (by rintro (h1 | h1); exact c1 h1; exact h1.2 c3), if_neg c2] at hi
          ((refine hif_T ?_; conv => whnf); try (refine hcut.go ?_; conv => whnf))
          ((refine hif_F ?_; conv => whnf); try (refine hcut.go ?_; conv => whnf))
          (try (refine hcut.go ?_; conv => whnf))
          ((refine hif_F ?_; conv => whnf); try (refine hcut.go ?_; conv => whnf))
          ((refine hwrap_F ?_; conv => whnf); try (refine hcut.go ?_; conv => whnf))
          exact ⟨⟨(a ++ [s], b, s.number, sk), zip_next h, hsk, hi⟩, (hle_P [(1000000, some 1000000), (900, some 900)]), by simp⟩
        · rw [if_pos (.inr ⟨c2, c3⟩)] at hi
          subst hi
          ((refine hif_T ?_; conv => whnf); try (refine hcut.go ?_; conv => whnf))
          ((refine hif_T ?_; conv => whnf); try (refine hcut.go ?_; conv => whnf))
          exact ⟨⟨⟩, (hle_P [(1000000, some 1000000), (900, some 900)])⟩
  · rintro ⟨⟩
    conv => whnf
    (exact hfin_P [(1000000, some 1000000), (0, some 900)])
end Sco
namespace Snd
set_option maxHeartbeats 4000000
set_option maxRecDepth 100000
set_option linter.unusedSimpArgs false
theorem cloneQ (l : List Queued) (hb : l.length < 2 ^ 39) : FunOK Try.prog 84 [.own 1000000] (lk .free [(1000000, .live (.row 112 10 (l.map Queued.row)))]) (.own 0) (lk .free [(1000000, .live (.row 112 10 (l.map Queued.row))), (0, .live (.row 112 10 (l.map Queued.row)))]) := by
  refine funOK_of mixed Try.func84 (by decide) [1000000] lk_pins ?_
  conv => whnf
  intro b hn
  conv => whnf
  refine hif_intro (fun c => ?_) (fun c => ?_)
  · conv => whnf
    refine hfin_of [(1000000, some 1000000), (0, none)] rfl rfl ⟨rfl, trivial⟩ rfl rfl ⟨⟨rfl, .inl ⟨1000000, rfl, rfl⟩⟩, ⟨rfl, .inr ⟨rfl, hn c⟩⟩, trivial⟩
  · conv => whnf
    refine hobl_intro (c := (([] : List (List PV)).length + (l.map Queued.row).length) * 96 ≤ 140737488355328) (by simp; omega) ?_
    conv => whnf
    refine hfin_of [(1000000, some 1000000), (0, some 7)] rfl rfl ⟨rfl, trivial⟩ rfl rfl ⟨⟨rfl, .inl ⟨1000000, rfl, rfl⟩⟩, ⟨rfl, .inl ⟨7, rfl, ?_⟩⟩, trivial⟩
    rfl
theorem cloneX (l : List Sent) (hb : l.length < 2 ^ 38) : FunOK Try.prog 87 [.own 1000000] (lk .free [(1000000, .live (.row 145 20 (l.map Sent.row)))]) (.own 0) (lk .free [(1000000, .live (.row 145 20 (l.map Sent.row))), (0, .live (.row 145 20 (l.map Sent.row)))]) := by
  refine funOK_of mixed Try.func87 (by decide) [1000000] lk_pins ?_
  conv => whnf
  intro b hn
  conv => whnf
  refine hif_intro (fun c => ?_) (fun c => ?_)
  · conv => whnf
    refine hfin_of [(1000000, some 1000000), (0, none)] rfl rfl ⟨rfl, trivial⟩ rfl rfl ⟨⟨rfl, .inl ⟨1000000, rfl, rfl⟩⟩, ⟨rfl, .inr ⟨rfl, hn c⟩⟩, trivial⟩
  · conv => whnf
    refine hobl_intro (c := (([] : List (List PV)).length + (l.map Sent.row).length) * 200 ≤ 140737488355328) (by simp; omega) ?_
    conv => whnf
    refine hfin_of [(1000000, some 1000000), (0, some 7)] rfl rfl ⟨rfl, trivial⟩ rfl rfl ⟨⟨rfl, .inl ⟨1000000, rfl, rfl⟩⟩, ⟨rfl, .inl ⟨7, rfl, ?_⟩⟩, trivial⟩
    rfl
end Snd
end Go.HL
