/- Walks, contracts and laws of the law's functions: part 6. No condition. -/
import Derived.Test.YticmofoeecjnhaaGreatMe
set_option linter.unusedSimpArgs false
namespace Go.HL
open Go.Proofs
namespace Rcv
open Srt Jn Ser
set_option maxHeartbeats 4000000
set_option maxRecDepth 100000
set_option linter.unusedSimpArgs false
theorem RFit.cumB {N:Nat} {r:Receiver} (h:RFit N r) (hN:N <= 2 ^ 20):-(2 ^ 60) <= r.cum /\ r.cum <= 2 ^ 60:=by
 have:=h.cum1;have:=h.cum2;omega
theorem RFit.spansB {N:Nat} {r:Receiver} (h:RFit N r) (hN:N <= 2 ^ 20):∀ s ∈ r.spans,-(2 ^ 61) <= s.lo /\ s.lo <= 2 ^ 61 /\ -(2 ^ 61) <= s.hi /\ s.hi <= 2 ^ 61:=fun s hs=>by
 have h1:=h.above s hs
 have h2:=h.his s hs
 have h3:=h.cum1
 have h4:=h.cum2
 have h5:=(zkl h.rise s hs).1
 omega
theorem ypv (c:Chunk):wt c <= bulkL c.row /\ c.spans.length <= bulkL c.row:=by
 have h1:=zih (f:=bRow) (fun x=>by simp [bRow,bulkL,PV.bulk]) c.data
 have h2:=zih (f:=Span.row) (fun x=>by simp [Span.row,bulkL,PV.bulk]) c.spans
 have h3:=zih (f:=Skip.row) (fun x=>by simp [Skip.row,bulkL,PV.bulk]) c.skips
 unfold wt
 simp only [Chunk.row,bulkL,PV.bulk];omega
end Rcv
end Go.HL
namespace Go.HL
open Go.Proofs
namespace Rcv
open Srt Jn Ser
set_option maxHeartbeats 4000000
set_option maxRecDepth 100000
set_option linter.unusedSimpArgs false
def cfg8:Config:=⟨2,4,60,1,1,5,7⟩
def a8:Chunk:=⟨1,8,0,1,0,true,true,[98],[],0,[]⟩
def a7:Chunk:=⟨1,7,0,0,0,true,true,[97],[],0,[]⟩
def r1:Receiver:=⟨cfg8,6,[⟨8,8⟩],[⟨8,a8⟩],[0,0],[]⟩
def r2:Receiver:=⟨cfg8,8,[],[],[2,0],[⟨0,0,true,[97]⟩,⟨0,1,true,[98]⟩]⟩
end Rcv
end Go.HL
namespace Go.HL
open Go.Proofs
namespace Ln
open Ser
set_option maxHeartbeats 4000000
set_option maxRecDepth 100000
set_option linter.unusedSimpArgs false
def put1 (w:List Packet) (p:Packet):List Packet:=if w.length < 40 then w++[p] else w
def putW (w ps:List Packet):List Packet:=ps.foldl put1 w
def hear1 (back:Bool) (x:Line × Bool) (c:Chunk):Line × Bool :=
 if back then ({ x.1 with sender:=Snd.hear x.1.sender c },x.2) else
 if c.kind=1 then ({ x.1 with receiver:=Rcv.data x.1.receiver c },true) else
 if c.kind=3 then ({ x.1 with receiver:=Rcv.forward x.1.receiver c },true) else x
def told (path:Int) (l:Line):Line:=if (Pck.pbytes [Rcv.tells l.receiver] 120).2=0 then { l with way:=putW l.way [⟨path,true,(Pck.pbytes [Rcv.tells l.receiver] 120).1⟩] } else l
def zit (l:Line) (p:Packet):Line × Bool:=(Pck.pparse p.bytes).1.foldl (hear1 p.back) (l,false)
def come (l:Line) (p:Packet):Line :=
 if (Pck.pparse p.bytes).2 ≠ 0 then l else if (zit l p).2 then told p.path (zit l p).1 else (zit l p).1
def emit (l:Line):Line:={ l with sender:=(Snd.pump l.sender).1,way:=putW l.way (Snd.pump l.sender).2 }
def doS (l:Line) (x:Step):Line × Answer :=
 if x.kind=1 then (if Snd.zdo l.sender x.message=0 then (emit { l with sender:=Snd.sendS l.sender x.message },⟨0,l.sender.fates.length⟩) else (l,⟨Snd.zdo l.sender x.message,0⟩)) else
 if x.kind=2 \/ x.kind=3 \/ x.kind=4 then (if x.n < 0 then (l,⟨6,0⟩) else match l.way[x.n.toNat]? with
  | none=>(l,⟨6,0⟩)
  | some p=>if x.kind=4 then (emit { l with way:=putW l.way [p] },⟨0,0⟩) else
   (emit (if x.kind=2 then come { l with way:=l.way.eraseIdx x.n.toNat } p else { l with way:=l.way.eraseIdx x.n.toNat }),⟨0,0⟩)) else
 if x.kind=5 then (emit { l with sender:=Snd.tick l.sender },⟨0,0⟩) else (l,⟨1,0⟩)
def newL (c:Config):Line:=⟨Snd.newS c,Rcv.newR c,[]⟩
def play:Line -> List Step -> Line × List Answer
 | l,[]=>(l,[])
 | l,x :: r=>((play (doS l x).1 r).1,(doS l x).2 :: (play (doS l x).1 r).2)
theorem yct:∀ (a:List Step) (l:Line) (b:List Step),play l (a++b)=((play (play l a).1 b).1,(play l a).2++(play (play l a).1 b).2)
 | [],l,b=>rfl
 | x :: a,l,b=>by
  have h:=yct a (doS l x).1 b
  rw [List.cons_append,play,h];rfl
theorem ycu:∀ (a:List Step) (l:Line),(play l a).2.length=a.length
 | [],_=>rfl
 | x :: a,l=>by rw [play,List.length_cons,ycu a];rfl
theorem zzs:∀ (ps w:List Packet),w.length <= 40 -> (putW w ps).length <= 40
 | [],w,h=>h
 | p :: ps,w,h=>by
  unfold putW
  rw [List.foldl_cons]
  refine zzs ps _ ?_
  unfold put1
  split
  . simp;omega
  . exact h
theorem yjn:∀ (ps w:List Packet),∀ p ∈ putW w ps,p ∈ w \/ p ∈ ps
 | [],w,p,h=>.inl h
 | q :: ps,w,p,h=>by
  unfold putW at h
  rw [List.foldl_cons] at h
  rcases yjn ps _ p h with h | h
  . unfold put1 at h
    split at h
    . rcases List.mem_append.1 h with h | h
      . exact .inl h
      . rw [List.mem_singleton] at h;subst h;exact .inr (by simp)
    . exact .inl h
  . exact .inr (by simp [h])
theorem zrk (l:List Chunk) (most:Int) (h:0 <= most):((Pck.pbytes l most).1.length:Int) <= most:=by
 unfold Pck.pbytes
 (repeat' split) <;> first | (simp;omega) | (dsimp only;omega)
theorem yoy (kind:Int) (b:List UInt8):(Chk.zcb kind b).1.data.length+(Chk.zcb kind b).1.skips.length <= b.length /\ (Chk.zcb kind b).1.spans.length <= b.length:=by
 have h1:=Chk.zhr (b.drop 2)
 have h2:=Chk.zjf (b.drop 4)
 have h3:(b.drop 2).length <= b.length:=by simp
 have h4:(b.drop 4).length <= b.length:=by simp
 unfold Chk.zcb
 (repeat' split) <;> constructor <;> first | (simp [Chk.no];done) | (dsimp only [Chk.no];simp;omega) | (dsimp only [Chk.no];omega)
theorem ymo {b:List UInt8} (h:(Chk.parse b).2.2=0):Rcv.wt (Chk.parse b).1+1 <= (Chk.parse b).2.1.toNat /\ (Chk.parse b).2.1.toNat <= b.length /\ (Chk.parse b).1.spans.length <= b.length:=by
 have h1:=yoy (b[0]?.getD 0).toNat ((b.drop 2).take (b[1]?.getD 0).toNat)
 have h2:((b.drop 2).take (b[1]?.getD 0).toNat).length <= (b[1]?.getD 0).toNat:=by simp;omega
 have h3:((b.drop 2).take (b[1]?.getD 0).toNat).length <= b.length:=by simp;omega
 unfold Chk.parse at h ⊢
 (repeat' split at h) <;> first | contradiction | skip
 . rename_i c1 c2 c3 c4
   rw [if_neg c1,if_neg c2,if_neg c3,if_neg c4]
   unfold Rcv.wt
   dsimp only
   refine ⟨by omega,by omega,by omega⟩
theorem zxh:∀ (f:Nat) (b:List UInt8),Rcv.wts (Pck.zek f b).1 <= b.length /\ ∀ c ∈ (Pck.zek f b).1,c.spans.length <= b.length /\ Rcv.wt c <= b.length
 | 0,b=>by simp [Pck.zek,Rcv.wts]
 | f+1,b=>by
  have ih:=zxh f (b.drop (Chk.parse b).2.1.toNat)
  unfold Pck.zek
  (repeat' split) <;> first | (simp [Rcv.wts];done) | skip
  rename_i c1 c2 c3
  have hp:=ymo (Decidable.not_not.1 c2)
  rw [List.length_drop] at ih
  refine ⟨?_,fun c hc=>?_⟩
  . dsimp only
    rw [Rcv.zko];omega
  . rcases List.mem_cons.1 hc with rfl | hc
    . exact ⟨hp.2.2,by omega⟩
    . have:=ih.2 c hc;omega
theorem zxi (b:List UInt8):Rcv.wts (Pck.pparse b).1 <= b.length /\ ∀ c ∈ (Pck.pparse b).1,c.spans.length <= b.length /\ Rcv.wt c <= b.length:=by
 unfold Pck.pparse
 split
 . simp [Rcv.wts]
 . exact zxh _ _
theorem yjo {most path:Int} {l:List Chunk} (h0:0 <= most):∀ p ∈ Snd.pack1 most path l,(p.bytes.length:Int) <= most /\ p.back=false:=by
 intro p hp
 unfold Snd.pack1 at hp
 split at hp
 . rw [List.mem_singleton] at hp;subst hp;exact ⟨zrk _ _ h0,rfl⟩
 . simp at hp
theorem zxj {most path:Int} (h0:0 <= most):∀ (n:Nat) (l:List Chunk),∀ p ∈ Snd.packN most path n l,(p.bytes.length:Int) <= most /\ p.back=false
 | 0,l,p,hp=>by simp [Snd.packN] at hp
 | n+1,l,p,hp=>by
  unfold Snd.packN at hp
  split at hp
  . simp at hp
  . rcases List.mem_append.1 hp with hp | hp
    . exact yjo h0 p hp
    . exact zxj h0 n _ p hp
theorem zmf {most:Int} (h0:0 <= most):∀ (ls:List (List Chunk)) (k:Nat),∀ p ∈ Snd.zay most k ls,(p.bytes.length:Int) <= most /\ p.back=false
 | [],k,p,hp=>by simp [Snd.zay] at hp
 | l :: ls,k,p,hp=>by
  unfold Snd.zay at hp
  rcases List.mem_append.1 hp with hp | hp
  . exact zxj h0 _ _ p hp
  . exact zmf h0 ls _ p hp
structure LI (N M:Nat) (l:Line):Prop where
 snd:Snd.SI N l.sender
 rcv:Rcv.RFit M l.receiver
 small:M <= 2 ^ 20
 way:l.way.length <= 40
 bytes:∀ p ∈ l.way,p.bytes.length <= 120
section
variable {N M:Nat} {l:Line}
theorem LI.more (h:LI N M l) {M':Nat} (h1:M <= M') (h2:M' <= 2 ^ 20):LI N M' l:=⟨h.snd,h.rcv.more h1,h2,h.way,h.bytes⟩
theorem ycv {back:Bool} {x:Line × Bool} {c:Chunk} (h:LI N M x.1) (hM:M+Rcv.wt c <= 2 ^ 20):LI N (M+Rcv.wt c) (hear1 back x c).1:=by
 have hw:Rcv.wt c=c.data.length+c.skips.length+1:=rfl
 unfold hear1
 split
 . exact ⟨Snd.zzg h.snd c,h.rcv.more (by omega),hM,h.way,h.bytes⟩
 split
 . exact ⟨h.snd,(Rcv.ymn h.rcv (by omega) c).more (by omega),hM,h.way,h.bytes⟩
 split
 . exact ⟨h.snd,(Rcv.zzp h.rcv (by omega) c (by omega)).more (by omega),hM,h.way,h.bytes⟩
 . exact h.more (by omega) hM
theorem ycw {back:Bool}:∀ (cs:List Chunk) {M:Nat} {x:Line × Bool},LI N M x.1 -> M+Rcv.wts cs <= 2 ^ 20 -> LI N (M+Rcv.wts cs) (cs.foldl (hear1 back) x).1
 | [],M,x,h,_=>h
 | c :: cs,M,x,h,hM=>by
  rw [Rcv.zko] at hM ⊢
  have:=ycw (back:=back) cs (ycv (back:=back) (c:=c) h (by omega)) (by omega)
  rw [<- Nat.add_assoc];exact this
theorem ycx (h:LI N M l) {ps:List Packet} (hp:∀ p ∈ ps,p.bytes.length <= 120):LI N M { l with way:=putW l.way ps } :=
 ⟨h.snd,h.rcv,h.small,zzs ps _ h.way,fun p hq=>by rcases yjn ps _ p hq with hq | hq;exact h.bytes p hq;exact hp p hq⟩
theorem yoz (h:LI N M l) (path:Int):LI N M (told path l):=by
 unfold told
 split
 . refine ycx h fun p hp=>?_
   rw [List.mem_singleton] at hp;subst hp
   have:=zrk [Rcv.tells l.receiver] 120 (by decide)
   dsimp only;omega
 . exact h
theorem zzt (h:LI N M l) {p:Packet} (hp:p.bytes.length <= 120) (hM:M+120 <= 2 ^ 20):LI N (M+120) (come l p):=by
 have hw:=(zxi p.bytes).1
 have h2:LI N (M+120) (zit l p).1:=(ycw (back:=p.back) (Pck.pparse p.bytes).1 (x:=(l,false)) h (by omega)).more (by omega) hM
 unfold come
 split
 . exact h.more (by omega) hM
 split
 . exact yoz h2 _
 . exact h2
theorem zub (h:LI N M l):LI N M (emit l):=by
 have hw:=Snd.zck h.snd.cfg
 have hc:=Snd.ymf h.snd
 have h2:LI N M { l with sender:=(Snd.pump l.sender).1 }:=⟨Snd.yim h.snd,h.rcv,h.small,h.way,h.bytes⟩
 refine ycx h2 fun p hp=>?_
 have:=(zmf (by omega) _ _ p hp).1
 omega
theorem yjp (h:LI N M l) (x:Step) (hN:N+1 <= 2 ^ 20) (hM:M+120 <= 2 ^ 20):LI (N+1) (M+120) (doS l x).1:=by
 have h0:LI (N+1) (M+120) l:=⟨h.snd.mono (by omega) hN,h.rcv.more (by omega),hM,h.way,h.bytes⟩
 unfold doS
 split
 . split
   . rename_i e
     exact zub (l:={ l with sender:=Snd.sendS l.sender x.message }) ⟨Snd.zto h.snd e hN,h0.rcv,hM,h.way,h.bytes⟩
   . exact h0
 split
 . split
   . exact h0
   split
   . exact h0
   rename_i p hp
   have hb:=h.bytes p (List.mem_of_getElem? hp)
   have he:∀ {N M:Nat},LI N M l -> LI N M { l with way:=l.way.eraseIdx x.n.toNat }:=fun h =>
    ⟨h.snd,h.rcv,h.small,by show (l.way.eraseIdx _).length <= 40;have:=h.way;rw [List.length_eraseIdx];split <;> omega,fun q hq=>h.bytes q (List.mem_of_mem_eraseIdx hq)⟩
   split
   . refine zub (ycx h0 fun q hq=>?_)
     rw [List.mem_singleton] at hq;subst hq;exact hb
   . refine zub ?_
     split
     . exact zzt (he ⟨h.snd.mono (by omega) hN,h.rcv,h.small,h.way,h.bytes⟩) hb hM
     . exact he h0
 split
 . exact zub (l:={ l with sender:=Snd.tick l.sender }) ⟨Snd.zoz h0.snd,h0.rcv,hM,h.way,h.bytes⟩
 . exact h0
theorem ycy:∀ (a:List Step) {N M:Nat} {l:Line},LI N M l -> N+a.length <= 2 ^ 20 -> M+120 * a.length <= 2 ^ 20 -> LI (N+a.length) (M+120 * a.length) (play l a).1
 | [],N,M,l,h,_,_=>h
 | x :: a,N,M,l,h,h1,h2=>by
  simp only [List.length_cons] at h1 h2 ⊢
  have:=ycy a (yjp h x (by omega) (by omega)) (by omega) (by omega)
  rw [show N+(a.length+1)=N+1+a.length by omega,show M+120 * (a.length+1)=M+120+120 * a.length by omega];exact this
end
theorem zzu {c:Config} (h:Snd.wrgS c=0):LI 0 0 (newL c):=by
 have hw:=Snd.zck h
 have hl:(Rcv.newR c).turn.length <= 4:=by simp [Rcv.newR];omega
 have ht:∀ t ∈ (Rcv.newR c).turn,t=0:=fun t ht=>(List.mem_replicate.1 ht).2
 exact ⟨Snd.yni h,⟨Nat.le_refl _,Nat.le_refl _,Nat.le_refl _,trivial,by simp [newL,Rcv.newR],by simp [newL,Rcv.newR],by show -1 <= c.first - 1;omega,by show c.first - 1 <= _;omega,fun t htt=>by rw [ht t htt];decide,fun t htt=>by rw [ht t htt];simp [newL,Rcv.newR],by show (Rcv.newR c).turn.length < _;omega⟩,by decide,by simp [newL],by simp [newL]⟩
end Ln
end Go.HL
namespace Go.HL
open Go.Proofs
namespace Ln
open Ser
set_option maxHeartbeats 8000000
set_option maxRecDepth 100000
set_option linter.unusedSimpArgs false
abbrev pks (l:List Packet):HV:=.p (.sl 3 (l.map Packet.row))
def lnC (s:Sender) (r:Receiver) (w:HV):List HV:=[i64 s.config.streams,i64 s.config.part,i64 s.config.packet,i64 s.config.paths,i64 s.config.turns,i64 s.config.waiting,i64 s.config.first,i64 s.clock,Sch.qs s.queue,i64 s.sched.last,i64 s.sched.hand,ints s.sched.had,Sco.sents s.out,Snd.pths s.paths,i64 s.cum,i64 s.next,i64 s.room,ints s.mids,ints s.fates,hbool s.forward,i64 s.recover,
 i64 r.config.streams,i64 r.config.part,i64 r.config.packet,i64 r.config.paths,i64 r.config.turns,i64 r.config.waiting,i64 r.config.first,i64 r.cum,.p (.sl 2 (r.spans.map Span.row)),.p (.sl 12 (r.pieces.map Piece.row)),ints r.turn,.p (.sl 4 (r.log.map Arrival.row)),w]
abbrev lnB (s:Sender) (r:Receiver) (w:HV):HSlot:=.live (.cells 40 (lnC s r w))
end Ln
end Go.HL
namespace Go.HL
open Go.Proofs
namespace Ln
open Ser
set_option maxHeartbeats 8000000
set_option maxRecDepth 100000
set_option linter.unusedSimpArgs false
theorem yjq (back:Bool) (x:Line × Bool) (c:Chunk):(hear1 back x c).1.way=x.1.way:=by
 unfold hear1;(repeat' split) <;> rfl
theorem yjr:∀ cs:List Chunk,cs.length <= Rcv.wts cs
 | []=>by simp [Rcv.wts]
 | c :: cs=>by
  have:=yjr cs
  rw [Rcv.zko,List.length_cons];unfold Rcv.wt;omega
theorem zzv (r:Receiver):Pck.Sized [Rcv.tells r]:=⟨by simp,fun c hc=>by
 rw [List.mem_singleton] at hc
 subst hc
 exact ⟨by simp [Rcv.tells];omega,by simp [Rcv.tells]⟩⟩
end Ln
end Go.HL
namespace Go.HL
open Go.Proofs
namespace Ln
open Ser
set_option maxHeartbeats 8000000
set_option maxRecDepth 100000
set_option linter.unusedSimpArgs false
theorem yjs (l A:List Packet) (p:Packet):putW l (A++[p])=put1 (putW l A) p:=by unfold putW;rw [List.foldl_append];rfl
abbrev rowP (l:List Packet):HSlot:=.live (.row 110 3 (l.map Packet.row))
theorem zpg (l ps:List Packet) (hl:l.length <= 40) (hp:ps.length < 2 ^ 62):FunOK Tryz.prog 107 [pks l,pks ps] zac (pks (putW l ps)) zac:=by
 refine zah mixed Tryz.func107 (by decide) ?_
 conv=>whnf
 refine zaa (c:=(([]:List (List PV)).length+(l.map Packet.row).length) * 40 <= 140737488355328) (by simp;omega) ?_;conv=>whnf
 refine ⟨{ x:List Packet × List Packet // ps=x.1++x.2 },fun | ⟨(A,B),_⟩=>hs 26 [(5,.own 900),(11,pks ps),(12,i64 ps.length),(13,i64 A.length)] [(900,rowP (putW l A))],fun x=>x.1.2.length,⟨([],ps),rfl⟩,?_,?_⟩
 . exact (hle_Q [(900,some 10)])
 rintro ⟨⟨A,B⟩,h⟩
 dsimp only at h
 conv=>whnf
 cases B with
 | cons p B =>
  have hz:=zar h
  have hn:=yjs l A p
  have hle:=zzs A l hl
  refine sT ?_
  refine zaj h rfl ?_;conv=>whnf
  (try (refine hcut.go ?_;conv=>whnf))
  by_cases c1:(putW l A).length < 40
  case pos =>
   rw [put1,if_pos c1] at hn
   refine zad (by rw [List.length_map,decide_eq_true_eq];omega) ?_;conv=>whnf
   refine zaa (c:=(((putW l A).map Packet.row).length+1) * 40 <= 140737488355328) (by rw [List.length_map];omega) ?_;conv=>whnf
   refine sF ?_
   exact ⟨⟨(A++[p],B),zae h⟩,(hle_X [(900,some 23)] (by repeat' (first | exact z0 | refine z1 ?_ | refine ⟨?_,?_⟩ | ((exact zat (f:=Packet.row) hn rfl)) | exact z2))),by simp⟩
  rw [put1,if_neg c1] at hn
  refine zab (by rw [List.length_map,decide_eq_false_iff_not];omega) ?_;conv=>whnf
  (try (refine hcut.go ?_;conv=>whnf))
  refine sF ?_
  exact ⟨⟨(A++[p],B),zae h⟩,(hle_X [(900,some 900)] (by repeat' (first | exact z0 | refine z1 ?_ | refine ⟨?_,?_⟩ | ((rw [hn])) | exact z2))),by simp⟩
 | nil =>
  have hz:=zaz h
  rw [List.append_nil] at h
  subst h
  ((refine hif_F ?_;conv=>whnf);try (refine hcut.go ?_;conv=>whnf))
theorem zft (l ps:List Packet) (hl:l.length <= 40) (hp:ps.length < 2 ^ 62) {rows:List (List PV)} (hr:rows=l.map Packet.row):FunOK Tryz.prog 107 [.p (.sl 3 rows),pks ps] zac (pks (putW l ps)) zac:=by
 subst hr;exact zpg l ps hl hp
abbrev ypw:List HV:=[i64 0,i64 0,i64 0,i64 0,i64 0,i64 0,i64 0,i64 0,hnil,i64 0,i64 0,hnil,hnil,hnil,i64 0,i64 0,i64 0,hnil,hnil,hbool false,i64 0,i64 0,i64 0,i64 0,i64 0,i64 0,i64 0,i64 0,i64 0,hnil,hnil,hnil,hnil,hnil]
abbrev lnS (l:Line):HSlot:=lnB l.sender l.receiver (pks l.way)
abbrev rcH (y:Line) (p:Packet):List (Nat × HSlot):=[(2,lnS y),(3,.live (.cells 110 p.cells)),(4,.live (.cells 40 ypw))]
theorem yfh {N M:Nat} (l:Line) (p:Packet) (h:LI N M l) (hM:M+120 <= 2 ^ 20) (hp:p.bytes.length <= 120):FunOK Tryz.prog 108 [l.hv,p.hv] zac (come l p).hv zac:=by
 obtain ⟨path,back,bytes⟩:=p
 dsimp only at hp
 generalize hT:come l ⟨path,back,bytes⟩=T
 refine zah mixed Tryz.func108 (by decide) ?_
 have hw:=zxi bytes
 have pp:=Pck.zvq bytes (by omega)
 rw [come] at hT
 dsimp only at hT
 have hall:zit l ⟨path,back,bytes⟩=(Pck.pparse bytes).1.foldl (hear1 back) (l,false):=rfl
 generalize Pck.pparse bytes=K at hT hw hall pp
 obtain ⟨cs,e⟩:=K
 dsimp only at hT hw hall pp
 by_cases c1:e=0
 case neg =>
  rw [if_pos c1] at hT
  subst hT
  conv=>whnf
  (refine cP ?_;refine dL pp ?_)
  refine zad (bne_iff_ne.2 c1) ?_;conv=>whnf
  try rfl
 subst c1
 rw [if_neg (fun h=>h rfl)] at hT
 conv=>whnf
 (refine cP ?_;refine dL pp ?_)
 (try (refine hcut.go ?_;conv=>whnf))
 refine ⟨{ x:(Line × Bool) × List Chunk × List Chunk // cs=x.2.1++x.2.2 /\ x.2.1.foldl (hear1 back) (l,false)=x.1 /\ LI N (M+Rcv.wts x.2.1) x.1.1 /\ x.1.1.way=l.way },fun | ⟨((y,told),A,B),_⟩=>hs 75 [(2,.ptr 2 0),(3,.ptr 3 0),(4,.ptr 4 0),(7,hbool told),(21,.p (.sl 11 (cs.map Chunk.row))),(22,i64 cs.length),(23,i64 A.length)] (rcH y ⟨path,back,bytes⟩),fun x=>x.1.2.2.length,⟨((l,false),[],cs),rfl,rfl,by simpa [Rcv.wts] using h,rfl⟩,?_,?_⟩
 . exact (hle_Q [(2,some 2),(3,some 3),(4,some 4)])
 rintro ⟨⟨⟨y,told⟩,A,B⟩,k1,k2,k3,k4⟩
 dsimp only at k1 k2 k3 k4
 refine zbk fun Q hQ=>?_
 conv=>whnf
 cases B with
 | cons c B =>
  have hz:=zar k1
  obtain ⟨w1,w2⟩:=hw
  have hcl:=yjr cs
  have hc:=w2 c (zfb k1)
  have hsum:Rcv.wts cs=Rcv.wts A+(Rcv.wt c+Rcv.wts B):=by rw [k1,Rcv.yjm,Rcv.zko]
  have hwt:Rcv.wt c=c.data.length+c.skips.length+1:=rfl
  have hnx:(A++[c]).foldl (hear1 back) (l,false)=hear1 back (y,told) c:=by rw [List.foldl_append,k2];rfl
  have hli:=ycv (back:=back) (x:=(y,told)) (c:=c) k3 (by omega)
  have hwy:=(yjq back (y,told) c).trans k4
  rw [show M+Rcv.wts A+Rcv.wt c=M+Rcv.wts (A++[c]) by rw [Rcv.yjm,Rcv.zko];simp [Rcv.wts];omega] at hli
  refine sT ?_
  refine zaj k1 rfl ?_;conv=>whnf
  (try (refine hcut.go ?_;conv=>whnf))
  cases back with
  | true =>
   conv=>whnf
   (refine cP ?_;refine dL (Snd.zrb y.sender c k3.snd (by omega)) ?_)
   (try (refine hcut.go ?_;conv=>whnf))
   refine sF ?_
   refine hQ _ _ ?_;conv=>whnf
   exact ⟨⟨(hear1 true (y,told) c,A++[c],B),zae k1,hnx,hli,hwy⟩,(hle_Q [(2,some 2),(3,some 3),(4,some 4)]),by simp⟩
  | false =>
   conv=>whnf
   (try (refine hcut.go ?_;conv=>whnf))
   by_cases d1:c.kind=1
   case pos =>
    have e1:hear1 false (y,told) c=({ y with receiver:=Rcv.data y.receiver c },true):=by unfold hear1;rw [if_neg (by decide),if_pos d1]
    rw [e1] at hnx hli hwy
    refine zad (beq_iff_eq.2 d1) ?_;conv=>whnf
    (refine cP ?_;refine dL (Rcv.yff y.receiver c k3.rcv (by omega) (by omega)) ?_)
    (try (refine hcut.go ?_;conv=>whnf))
    refine sF ?_
    refine hQ _ _ ?_;conv=>whnf
    exact ⟨⟨(({ y with receiver:=Rcv.data y.receiver c },true),A++[c],B),zae k1,hnx,hli,hwy⟩,(hle_Q [(2,some 2),(3,some 3),(4,some 4)]),by simp⟩
   refine zab (beq_eq_false_iff_ne.2 d1) ?_;conv=>whnf
   (try (refine hcut.go ?_;conv=>whnf))
   by_cases d2:c.kind=3
   case pos =>
    have e1:hear1 false (y,told) c=({ y with receiver:=Rcv.forward y.receiver c },true):=by unfold hear1;rw [if_neg (by decide),if_neg d1,if_pos d2]
    rw [e1] at hnx hli hwy
    refine zad (beq_iff_eq.2 d2) ?_;conv=>whnf
    (refine cP ?_;refine dL (Rcv.zua y.receiver c k3.rcv (by omega) (by omega)) ?_)
    (try (refine hcut.go ?_;conv=>whnf))
    refine sF ?_
    refine hQ _ _ ?_;conv=>whnf
    exact ⟨⟨(({ y with receiver:=Rcv.forward y.receiver c },true),A++[c],B),zae k1,hnx,hli,hwy⟩,(hle_Q [(2,some 2),(3,some 3),(4,some 4)]),by simp⟩
   have e1:hear1 false (y,told) c=(y,told):=by unfold hear1;rw [if_neg (by decide),if_neg d1,if_neg d2]
   rw [e1] at hnx hli hwy
   refine zab (beq_eq_false_iff_ne.2 d2) ?_;conv=>whnf
   (try (refine hcut.go ?_;conv=>whnf))
   refine sF ?_
   refine hQ _ _ ?_;conv=>whnf
   exact ⟨⟨((y,told),A++[c],B),zae k1,hnx,hli,hwy⟩,(hle_Q [(2,some 2),(3,some 3),(4,some 4)]),by simp⟩
 | nil =>
 have hz:=zaz k1
 rw [List.append_nil] at k1
 rw [<- k1] at k2 k3
 rw [hall,k2] at hT
 dsimp only at hT
 obtain ⟨w1,w2⟩:=hw
 have hfit:=k3.rcv.fit (by omega)
 refine sN ?_
 refine hQ _ _ ?_;conv=>whnf
 cases told with
 | false =>
  rw [if_neg (by decide)] at hT
  subst hT
  conv=>whnf
  (try (refine hcut.go ?_;conv=>whnf))
  try rfl
 | true =>
 rw [if_pos rfl] at hT
 conv=>whnf
 (try (refine hcut.go ?_;conv=>whnf))
 have hcb:=k3.rcv.cumB (by omega)
 (refine cP ?_;refine dL (Rcv.zzr y.receiver (by have:=hfit.spans;omega) (by have:=hfit.pieces;omega) (by have:=hfit.bytes;omega) hcb.1 hcb.2 (k3.rcv.spansB (by omega))) ?_)
 (refine cP ?_;refine dL (Pck.zgd [Rcv.tells y.receiver] 120 (zzv _)) ?_)
 unfold Ln.told at hT
 generalize Pck.pbytes [Rcv.tells y.receiver] 120=K2 at hT ⊢
 obtain ⟨b,e⟩:=K2
 dsimp only at hT
 by_cases c3:e=0
 case pos =>
  rw [if_pos c3] at hT
  subst hT c3
  conv=>whnf
  (refine cP ?_;refine dL (zpg y.way [⟨path,true,b⟩] (by rw [k4];exact h.way) (by simp)) ?_)
  try rfl
 case neg =>
  rw [if_neg c3] at hT
  subst hT
  refine zab (beq_eq_false_iff_ne.2 c3) ?_;conv=>whnf
  try rfl
end Ln
end Go.HL
namespace Go.HL
open Go.Proofs
namespace Snd
open Ser
set_option maxHeartbeats 4000000
set_option linter.unusedSimpArgs false
theorem zxk {α:Type} {o:List α} {c:α} {k:Nat} {f:α -> α} (h:k < o.length):setAt (o++[c]) k f=setAt o k f++[c]:=by
 unfold setAt
 rw [List.getElem?_append_left h]
 obtain ⟨x,hx⟩:∃ x,o[k]?=some x:=⟨_,List.getElem?_eq_getElem h⟩
 rw [hx]
 dsimp only
 rw [List.set_append_left _ _ h]
def ext (p:Pump):Pump:=⟨p.s,p.out++[[]]⟩
theorem zzw (p:Pump) (i path:Nat):(fly p i path).out.length=p.out.length:=by
 unfold fly;split
 . rfl
 . exact zdn _ _ _
theorem ycz (p:Pump) (i path:Nat):(fly p i path).s.paths.length=p.s.paths.length:=by
 unfold fly;split
 . rfl
 . exact zdn _ _ _
theorem yjt {p:Pump} {i path:Nat} (h:path < p.out.length):fly (ext p) i path=ext (fly p i path):=by
 unfold fly ext
 dsimp only
 split
 . rfl
 . rw [zxk h]
theorem yfi {p:Pump} {i path:Nat} (h:path < p.out.length):zbx path (ext p) i=ext (zbx path p i):=by
 have h2:=yjt (i:=i) h
 unfold zbx
 show (match p.s.out[i]? with | none=>ext p | some x=>if x.state=3 /\ opened p.s path=true then fly (ext p) i path else ext p)=_
 cases p.s.out[i]? with
 | none=>rfl
 | some x =>
  dsimp only
  by_cases c:x.state=3 /\ opened p.s path=true
  . rw [if_pos c,if_pos c];exact h2
  . rw [if_neg c,if_neg c]
theorem yfj (p:Pump) (i path:Nat):(zbx path p i).out.length=p.out.length:=by
 unfold zbx
 split
 . rfl
 . split
   . exact zzw _ _ _
   . rfl
theorem zlq {path:Nat}:∀ (L:List Nat) {p:Pump},path < p.out.length -> L.foldl (zbx path) (ext p)=ext (L.foldl (zbx path) p) /\ (L.foldl (zbx path) p).out.length=p.out.length
 | [],p,_=>⟨rfl,rfl⟩
 | i :: L,p,h=>by
  have h1:=yfj p i path
  obtain ⟨h2,h3⟩:=zlq L (p:=zbx path p i) (by rw [h1];exact h)
  rw [List.foldl_cons,List.foldl_cons,yfi h]
  exact ⟨h2,h3.trans h1⟩
theorem yju {p:Pump} (h:choose p.s < p.out.length):again (ext p)=ext (again p):=(zlq _ h).1
theorem yjv {p:Pump} (h:choose p.s < p.out.length):(again p).out.length=p.out.length:=(zlq _ h).2
theorem yjw {p:Pump} {k:Nat} {m:Queued} {n:Int} (h:choose p.s < p.out.length):next1 (ext p) k m n=ext (next1 p k m n):=by
 unfold next1
 exact yjt (p:=⟨_,p.out⟩) h
theorem ymp {p:Pump} (h:choose p.s < p.out.length):next (ext p)=(next p).map ext:=by
 unfold next
 show (if zcu p.s < 0 \/ opened p.s (choose p.s)=false \/ (p.s.out.length:Int) >= 60 then none else match p.s.queue[(zcu p.s).toNat]? with
  | none=>none
  | some m=>if flight p.s > 0 /\ W (flight p.s+many p.s m) > p.s.room then none else some (next1 (ext p) (zcu p.s).toNat m (many p.s m)))=_
 by_cases c1:zcu p.s < 0 \/ opened p.s (choose p.s)=false \/ (p.s.out.length:Int) >= 60
 . rw [if_pos c1,if_pos c1];rfl
 rw [if_neg c1,if_neg c1]
 cases p.s.queue[(zcu p.s).toNat]? with
 | none=>rfl
 | some m =>
  dsimp only
  by_cases c2:flight p.s > 0 /\ W (flight p.s+many p.s m) > p.s.room
  . rw [if_pos c2,if_pos c2];rfl
  . rw [if_neg c2,if_neg c2,yjw h];rfl
theorem zzx {p:Pump} (h:choose p.s < p.out.length):forward (ext p)=ext (forward p):=by
 unfold forward
 show (if p.s.forward=false \/ (Sco.point p.s.out p.s.cum).1=p.s.cum then ext p else _)=_
 by_cases c:p.s.forward=false \/ (Sco.point p.s.out p.s.cum).1=p.s.cum
 . rw [if_pos c,if_pos c]
 . rw [if_neg c,if_neg c];unfold ext;dsimp only;rw [zxk h]
theorem zmg (most:Int):∀ (k:Nat) (o:List (List Chunk)),zay most k (o++[[]])=zay most k o
 | k,[]=>rfl
 | k,l :: o=>by
  show packN most k l.length l++zay most (k+1) (o++[[]])=_
  rw [zmg most (k+1) o];rfl
def SL (s:Sender):Prop:=0 <= s.sched.last /\ s.sched.last < s.sched.had.length
theorem yjx {s:Sender} {id:Int} (h:SL s):SL (giveS s id):=by
 have e:(giveS s id).sched=if s.sched.hand=id then { s.sched with hand:=-1 } else s.sched:=rfl
 unfold SL;rw [e];split <;> exact h
theorem ypa {s:Sender} {m:Queued} (h:SL s):SL (expQ s m):=by unfold expQ;split;exact yjx h;exact h
theorem ypb {s:Sender} {m:Sent} (h:SL s):SL (expX s m):=by unfold expX;split;exact yjx h;exact h
theorem yda:∀ (q:List Queued) {s:Sender},SL s -> SL (q.foldl expQ s)
 | [],_,h=>h
 | _ :: q,_,h=>yda q (ypa h)
theorem ydb:∀ (q:List Sent) {s:Sender},SL s -> SL (q.foldl expX s)
 | [],_,h=>h
 | _ :: q,_,h=>ydb q (ypb h)
theorem zxl {s:Sender} (h:SL s):SL (expire s):=ydb _ (yda _ h)
theorem zxm (p:Pump) (i path:Nat):(fly p i path).s.sched=p.s.sched:=by unfold fly;split <;> rfl
theorem zkp (p:Pump):(forward p).s.sched=p.s.sched:=by unfold forward;split <;> rfl
theorem zkq {p q:Pump} (h:next p=some q):(p.s.out.length:Int) < 60 /\ ∃ (k:Nat) (m:Queued),p.s.queue[k]?=some m /\ q=next1 p k m (many p.s m):=by
 unfold next at h
 by_cases c1:zcu p.s < 0 \/ opened p.s (choose p.s)=false \/ (p.s.out.length:Int) >= 60
 . rw [if_pos c1] at h;cases h
 rw [if_neg c1] at h
 refine ⟨by omega,(zcu p.s).toNat,?_⟩
 cases hm:p.s.queue[(zcu p.s).toNat]? with
 | none=>rw [hm] at h;cases h
 | some m =>
  rw [hm] at h
  dsimp only at h
  split at h
  . cases h
  . cases h;exact ⟨m,rfl,rfl⟩
theorem yjy {N:Nat} {p q:Pump} (hS:SI N p.s) (h:next p=some q):SL q.s:=by
 obtain ⟨-,k,m,hm,rfl⟩:=zkq h
 have hq:=hS.queue m (List.mem_of_getElem? hm)
 have hn:=hS.nhad
 have h0:=hq.st0
 have h1:=hq.st1
 obtain ⟨ps,po⟩:=p
 unfold SL
 rw [zdy,zxm]
 show 0 <= m.message.stream /\ m.message.stream < ((Sch.had ps.sched _ _ _).had.length:Int)
 rw [yik]
 dsimp only at hn h1
 omega
theorem ymq {ps:Sender} {a c:List Chunk} {q:Pump} (h:next ⟨ps,[a,c]⟩=some q):(ps.out.length:Int) < 60 /\ q.out.length=2 /\ q.s.paths.length=ps.paths.length /\ q.s.out.length=ps.out.length+1 /\ (nth0 q.out).length <= a.length+1 /\ (nth1 q.out).length <= c.length+1:=by
 obtain ⟨h1,k,m,hm,rfl⟩:=zkq h
 refine ⟨h1,?_,?_,?_,?_⟩
 . rw [zdy,zzw];rfl
 . rw [zdy,ycz];rfl
 . rw [zdy];unfold fly;dsimp only;split <;> simp [cutS]
 . rw [zdy];unfold fly;dsimp only;split
   . exact ⟨by show a.length <= _;omega,by show c.length <= _;omega⟩
   . rcases hc:choose ps with _ | _ | n
     . constructor
       . show (a++[_]).length <= _;simp
       . show c.length <= _;omega
     . constructor
       . show a.length <= _;omega
       . show (c++[_]).length <= _;simp
     . constructor
       . show a.length <= _;omega
       . show c.length <= _;omega
end Snd
end Go.HL
namespace Go.HL
open Go.Proofs
namespace Snd
open Ser
set_option maxHeartbeats 4000000
set_option linter.unusedSimpArgs false
def OK2 (p:Pump):Prop:=∀ l ∈ p.out,∀ c ∈ l,Okc c
theorem ypx {np nf:Nat} {x:Sent} (h:XI np nf x):Okc x.chunk:=by unfold Okc;rw [h.spans,h.skips];simp
theorem yjz {o:List (List Chunk)} {k:Nat} {x:Chunk} {l:List Chunk} (h:l ∈ setAt o k (·++[x])):l ∈ o \/ ∃ m ∈ o,l=m++[x]:=by
 unfold setAt at h
 split at h
 . exact .inl h
 . rename_i y hy
   rcases List.mem_or_eq_of_mem_set h with h | h
   . exact .inl h
   . exact .inr ⟨y,List.mem_of_getElem? hy,h⟩
theorem ydc {s:Sender} {o:List (List Chunk)} {k:Nat} {x:Chunk} (h:OK2 ⟨s,o⟩) (hx:Okc x):∀ l ∈ setAt o k (·++[x]),∀ c ∈ l,Okc c:=by
 intro l hl c hc
 rcases yjz hl with h1 | ⟨m,hm,rfl⟩
 . exact h l h1 c hc
 . rcases List.mem_append.1 hc with h2 | h2
   . exact h m hm c h2
   . rw [List.mem_singleton] at h2;subst h2;exact hx
theorem yka {N:Nat} {p:Pump} (hS:SI N p.s) (h:OK2 p) (i path:Nat):OK2 (fly p i path):=by
 unfold fly
 split
 . exact h
 . rename_i x hx
   exact ydc (s:=p.s) h (ypx (hS.out x (List.mem_of_getElem? hx)))
theorem yfk {N:Nat} {p:Pump} (hS:SI N p.s) (h:OK2 p) (path i:Nat):OK2 (zbx path p i):=by
 unfold zbx
 split
 . exact h
 . split
   . exact yka hS h _ _
   . exact h
theorem zrl {N path:Nat}:∀ (L:List Nat) {p:Pump},SI N p.s -> path < p.s.paths.length -> OK2 p -> OK2 (L.foldl (zbx path) p)
 | [],_,_,_,h=>h
 | i :: L,p,hS,hp,h=>by
  obtain ⟨h1,h2⟩:=zkj hS hp i
  exact zrl L h1 (by rw [h2];exact hp) (yfk hS h path i)
theorem ykb {N:Nat} {p:Pump} (hS:SI N p.s) (h:OK2 p):OK2 (again p):=zrl _ hS (choose_lt' hS) h
theorem ymr {N:Nat} {p q:Pump} (hS:SI N p.s) (h:OK2 p) (hq:next p=some q):OK2 q:=by
 obtain ⟨-,k,m,hm,rfl⟩:=zkq hq
 obtain ⟨ps,po⟩:=p
 rw [zdy]
 exact yka (p:=⟨cutS ps k m,po⟩) (yil hS hm) h _ _
theorem zxn {N:Nat}:∀ (n:Nat) {p:Pump},SI N p.s -> OK2 p -> OK2 (nexts n p)
 | 0,_,_,h=>h
 | n+1,p,hS,h=>by
  rw [nexts]
  cases hq:next p with
  | none=>exact h
  | some q=>exact zxn n (zox hS hq) (ymr hS h hq)
theorem zzy {p:Pump} (h:OK2 p):OK2 (forward p):=by
 unfold forward
 split
 . exact h
 . exact ydc (s:=p.s) h (yhq p.s)
theorem zxo {N:Nat}:∀ (n:Nat) {p:Pump},SI N p.s -> p.out.length=p.s.paths.length -> nexts n (ext p)=ext (nexts n p)
 | 0,_,_,_=>rfl
 | n+1,p,hS,hl=>by
  have hc:choose p.s < p.out.length:=by rw [hl];exact choose_lt' hS
  rw [nexts,nexts,ymp hc]
  cases hq:next p with
  | none=>rfl
  | some q =>
   obtain ⟨-,k,m,hm,he⟩:=zkq hq
   have hql:q.out.length=q.s.paths.length:=by
    rw [he];obtain ⟨ps,po⟩:=p
    rw [zdy,zzw,ycz];exact hl
   exact zxo n (zox hS hq) hql
theorem yfl {N:Nat} {p:Pump} (hS:SI N p.s):(again p).s.paths.length=p.s.paths.length:=by
 have key:∀ (L:List Nat) (path:Nat) {p:Pump},SI N p.s -> path < p.s.paths.length -> (L.foldl (zbx path) p).s.paths.length=p.s.paths.length:=by
  intro L path
  induction L with
  | nil=>intro p _ _;rfl
  | cons i L ih =>
   intro p hS hp
   obtain ⟨h1,h2⟩:=zkj hS hp i
   rw [List.foldl_cons,ih h1 (by rw [h2];exact hp),h2]
 exact key _ _ hS (choose_lt' hS)
theorem yms {N:Nat} {E:Sender} (hE:SI N E) (hp:E.paths.length=1 \/ E.paths.length=2) (most:Int):(nexts 61 (again (forward ⟨E,[[],[]]⟩))).s=(nexts 61 (again (forward ⟨E,List.replicate E.paths.length []⟩))).s /\
 zay most 0 (nexts 61 (again (forward ⟨E,[[],[]]⟩))).out=zay most 0 (nexts 61 (again (forward ⟨E,List.replicate E.paths.length []⟩))).out:=by
 rcases hp with hp | hp
 . have e0:(⟨E,[[],[]]⟩:Pump)=ext ⟨E,[[]]⟩:=rfl
   have hc0:choose E < 1:=by rw [<- hp];exact choose_lt' hE
   rw [hp,e0,zzx (p:=⟨E,[[]]⟩) hc0]
   show _ /\ _=zay most 0 (nexts 61 (again (forward ⟨E,[[]]⟩))).out
   have hF:SI N (forward ⟨E,[[]]⟩).s:=zfm hE
   have hFo:(forward ⟨E,[[]]⟩).out.length=1:=by unfold forward;split <;> simp [zdn]
   have hFp:(forward ⟨E,[[]]⟩).s.paths.length=1:=by unfold forward;split <;> simp [zdn,hp]
   have hc1:choose (forward ⟨E,[[]]⟩).s < (forward ⟨E,[[]]⟩).out.length:=by rw [hFo,<- hFp];exact choose_lt' hF
   rw [yju hc1,zxo 61 (zna hF) (by rw [yjv hc1,yfl hF,hFo,hFp])]
   exact ⟨rfl,zmg most 0 _⟩
 . rw [hp];exact ⟨rfl,rfl⟩
theorem zxp (most path:Int):∀ (n:Nat) (l:List Chunk),(packN most path n l).length <= n
 | 0,_=>Nat.le_refl _
 | n+1,l=>by
  unfold packN
  split
  . exact Nat.zero_le _
  . have h:=zxp most path n (l.drop (room1 most l).toNat)
    have h1:(pack1 most path l).length <= 1:=by unfold pack1;split <;> simp
    rw [List.length_append];omega
theorem ypy (most:Int) (a c:List Chunk):zay most 0 ([a,c].take 0)++packN most 0 a.length a=zay most 0 ([a,c].take (0+1)):=by simp [zay]
theorem ypz (most:Int) (a c:List Chunk):zay most 0 ([a,c].take 1)++packN most 1 c.length c=zay most 0 ([a,c].take (1+1)):=by simp [zay]
theorem ykc (most:Int) (a c:List Chunk):(zay most 0 ([a,c].take 0)).length=0:=rfl
theorem ykd (most:Int) (a c:List Chunk):(zay most 0 ([a,c].take 1)).length <= a.length:=by
 have:=zxp most 0 a.length a
 simpa [zay] using this
end Snd
end Go.HL
namespace Go.HL
open Go.Proofs
namespace Snd
open Ser
set_option maxHeartbeats 32000000
set_option maxRecDepth 100000
set_option linter.unusedSimpArgs false
theorem zxq (t:Sender) (came life:Int):FunOK Tryz.prog 98 [i64 came,i64 life,.ptr 1000 0] (lk .free [(1000,scS t)]) (hbool (old t.clock came life)) (lk .free [(1000,scS t)]):=by
 refine zal mixed Tryz.func98 (by decide) [1000] zbn ?_
 conv=>whnf
 by_cases c1:life > 0
 . refine sT ?_
   refine sR ?_
   try refine sT ?_
   (exact zbz [(1000,some 1000)] (by repeat' (first | exact z0 | refine z1 ?_ | refine ⟨?_,?_⟩ | ((simp [old,c1];rfl)) | ((simp [old,c1])) | exact z2)))
 . refine sN ?_
   try refine sN ?_
   (exact zbz [(1000,some 1000)] (by repeat' (first | exact z0 | refine z1 ?_ | refine ⟨?_,?_⟩ | ((simp [old,c1];rfl)) | ((simp [old,c1])) | exact z2)))
abbrev rpS (t:Sender):List (Nat × HSlot):=[(1,scS t),(2,sc0)]
abbrev puH (E:Sender) (p:Pump):List (Nat × HSlot):=[(1,scS E),(2,sc0),(96,pdP p.s 900 901),(900,rowK (nth0 p.out)),(901,rowK (nth1 p.out))]
theorem zuc:∀ {b:List Sent} {z:Int} {sk:List Skip},(∀ (i:Nat) s,b[i]?=some s -> s.number=z+1+i) -> z <= (Sco.zde z sk b).1
 | [],z,sk,_=>Int.le_refl _
 | s :: r,z,sk,h=>by
  have h0:=h 0 s rfl
  have hr:∀ (i:Nat) t,r[i]?=some t -> t.number=s.number+1+i:=by
   intro i t ht
   have:=h (i+1) t (by simpa using ht)
   omega
  rw [Sco.zde]
  split
  . exact Int.le_refl _
  . split
    . split
      . exact Int.le_refl _
      . have:=zuc (sk:=Sco.skip s.chunk sk) hr;omega
    . have:=zuc (sk:=sk) hr;omega
theorem zfn {N:Nat} (s:Sender) (hS:SI N s) (hL:SL s):FunOK Tryz.prog 40 [s.hv] zac (.tup [(pump s).1.hv,.p (.sl 3 ((pump s).2.map Packet.row))]) zac:=by
 have hP:pump s=(woken (nexts 61 (again (forward ⟨expire s,List.replicate s.paths.length []⟩))).s,zay s.config.packet 0 (nexts 61 (again (forward ⟨expire s,List.replicate s.paths.length []⟩))).out):=rfl
 generalize pump s=P at hP ⊢
 have hsq:=hS.fit.queue
 refine zah mixed Tryz.func40 (by decide) ?_
 conv=>whnf
 refine ⟨{ x:(List Queued × List Queued) × Sender // s.queue=x.1.1++x.1.2 /\ x.1.1.foldl expQ s=x.2 /\ SI N x.2 /\ x.2.fates.length=s.fates.length },
  fun | ⟨((A,B),t),_⟩=>hs 331 [(1,.ptr 1 0),(2,.ptr 2 0),(4,.clo 98 [.ptr 1 0]),(27,Sch.qs s.queue),(28,i64 s.queue.length),(29,i64 A.length)] (rpS t),fun x=>x.1.1.2.length,⟨(([],s.queue),s),rfl,rfl,hS,rfl⟩,?_,?_⟩
 . exact (hle_Q [(1,some 1),(2,some 2)])
 rintro ⟨⟨⟨A,B⟩,t⟩,k1,k2,k3,k4⟩
 dsimp only at k1 k2 k3 k4
 refine zbk fun Q hQ=>?_
 conv=>whnf
 cases B with
 | cons m B =>
  have hz:=zar k1
  have hnext:(A++[m]).foldl expQ s=expQ t m:=by rw [List.foldl_append,k2];rfl
  have hq:=hS.queue m (zfb k1)
  have hm0:=hq.id0
  have hm1:=hq.id1
  obtain ⟨id,hid⟩:∃ k:Nat,m.id=k:=⟨m.id.toNat,by omega⟩
  have kn:=yih k3 (m:=m) (by omega)
  refine sT ?_
  refine zaj k1 rfl ?_;conv=>whnf
  (refine zag [] [(1000,1)] [] ?_;(conv=>whnf);refine dG (zxq t m.came m.message.life) ?_)
  cases ho:old t.clock m.came m.message.life with
  | true =>
   rw [expQ,if_pos ho] at hnext kn
   have pg:=zqw t id k3 (by omega)
   rw [<- hid] at pg
   conv=>whnf
   (try (refine hcut.go ?_;conv=>whnf))
   (refine cP ?_;refine dL pg ?_)
   refine sF ?_
   refine hQ _ _ ?_;conv=>whnf
   exact ⟨⟨((A++[m],B),giveS t m.id),zae k1,hnext,kn.1,kn.2.trans k4⟩,(hle_Q [(1,some 1),(2,some 2)]),by simp⟩
  | false =>
   rw [expQ,if_neg (by rw [ho];decide)] at hnext
   conv=>whnf
   (try (refine hcut.go ?_;conv=>whnf))
   refine sF ?_
   refine hQ _ _ ?_;conv=>whnf
   exact ⟨⟨((A++[m],B),t),zae k1,hnext,k3,k4⟩,(hle_Q [(1,some 1),(2,some 2)]),by simp⟩
 | nil =>
 have hz:=zaz k1
 rw [List.append_nil] at k1
 rw [<- k1] at k2
 have hE2:t.out.foldl expX t=expire s:=by rw [expire,k2]
 have hES:=(zov hS).1
 have hEL:=zxl hL
 have hER:=(zwc hS.pf).2
 generalize expire s=E at hE2 hES hEL hER hP
 refine sN ?_
 refine hQ _ _ ?_;conv=>whnf
 refine ⟨{ x:(List Sent × List Sent) × Sender // t.out=x.1.1++x.1.2 /\ x.1.1.foldl expX t=x.2 /\ SI N x.2 /\ x.2.fates.length=t.fates.length },
  fun | ⟨((A,B),u),_⟩=>hs 331 [(1,.ptr 1 0),(2,.ptr 2 0),(4,.clo 98 [.ptr 1 0]),(46,Sco.sents t.out),(47,i64 t.out.length),(48,i64 A.length)] (rpS u),fun x=>x.1.1.2.length,⟨(([],t.out),t),rfl,rfl,k3,rfl⟩,?_,?_⟩
 . exact (hle_Q [(1,some 1),(2,some 2)])
 have g4:=k3.out
 have hto:=k3.fit.out.len
 clear k4 k2 k1 hQ Q
 rintro ⟨⟨⟨A,B⟩,u⟩,k1,k2,k3,k4⟩
 dsimp only at k1 k2 k3 k4
 refine zbk fun Q hQ=>?_
 conv=>whnf
 cases B with
 | cons x B =>
  have hz:=zar k1
  have hnext:(A++[x]).foldl expX t=expX u x:=by rw [List.foldl_append,k2];rfl
  have hm:=g4 x (zfb k1)
  have hm0:=hm.id0
  have hm1:=hm.id1
  obtain ⟨id,hid⟩:∃ k:Nat,x.id=k:=⟨x.id.toNat,by omega⟩
  have kn:=yii k3 (m:=x) (by omega)
  have hidl:id < u.fates.length:=by omega
  have pg:=zqw u id k3 hidl
  rw [<- hid] at pg
  obtain ⟨f,hf⟩:∃ f,u.fates[id]?=some f:=⟨_,List.getElem?_eq_getElem hidl⟩
  have hdue:dueX u x=(decide (f=1) && (decide (x.state ≠ 2) && (old u.clock x.came x.life || (decide (x.state=3) && (decide (x.tries > 0) && decide (x.times > x.tries)))))):=by
   unfold dueX
   rw [hid,Int.toNat_natCast,hf];rfl
  refine sT ?_
  refine zaj k1 rfl ?_;conv=>whnf
  refine zai hf (by omega) ?_;conv=>whnf
  by_cases d1:f=1
  case neg =>
   refine zab ?_ ?_
   . simpa using d1
   conv=>whnf
   (try (refine hcut.go ?_;conv=>whnf))
   refine sF ?_
   refine hQ _ _ ?_;conv=>whnf
   rw [expX,if_neg (by rw [hdue];simp [d1])] at hnext
   exact ⟨⟨((A++[x],B),u),zae k1,hnext,k3,k4⟩,(hle_Q [(1,some 1),(2,some 2)]),by simp⟩
  refine zad ?_ ?_
  . simpa using d1
  conv=>whnf
  by_cases d2:x.state=2
  case pos =>
   refine zab ?_ ?_
   . simpa using d2
   conv=>whnf
   (try (refine hcut.go ?_;conv=>whnf))
   refine sF ?_
   refine hQ _ _ ?_;conv=>whnf
   rw [expX,if_neg (by rw [hdue];simp [d1,d2])] at hnext
   exact ⟨⟨((A++[x],B),u),zae k1,hnext,k3,k4⟩,(hle_Q [(1,some 1),(2,some 2)]),by simp⟩
  refine zad ?_ ?_
  . simpa using d2
  conv=>whnf
  (refine zag [] [(1000,1)] [] ?_;(conv=>whnf);refine dG (zxq u x.came x.life) ?_)
  cases d3:old u.clock x.came x.life with
  | true =>
   conv=>whnf
   (try (refine hcut.go ?_;conv=>whnf))
   (refine cP ?_;refine dL pg ?_)
   refine sF ?_
   refine hQ _ _ ?_;conv=>whnf
   rw [expX,if_pos (by rw [hdue];simp [d1,d2,d3])] at hnext kn
   exact ⟨⟨((A++[x],B),giveS u x.id),zae k1,hnext,kn.1,kn.2.trans k4⟩,(hle_Q [(1,some 1),(2,some 2)]),by simp⟩
  | false =>
  conv=>whnf
  by_cases d4:x.state=3
  case neg =>
   refine zab ?_ ?_
   . simpa using d4
   conv=>whnf
   (try (refine hcut.go ?_;conv=>whnf))
   refine sF ?_
   refine hQ _ _ ?_;conv=>whnf
   rw [expX,if_neg (by rw [hdue];simp [d1,d2,d3,d4])] at hnext
   exact ⟨⟨((A++[x],B),u),zae k1,hnext,k3,k4⟩,(hle_Q [(1,some 1),(2,some 2)]),by simp⟩
  refine zad ?_ ?_
  . simpa using d4
  conv=>whnf
  by_cases d5:x.tries > 0
  case neg =>
   refine zab ?_ ?_
   . simpa using d5
   conv=>whnf
   (try (refine hcut.go ?_;conv=>whnf))
   refine sF ?_
   refine hQ _ _ ?_;conv=>whnf
   rw [expX,if_neg (by rw [hdue];simp [d1,d2,d3,d4,d5])] at hnext
   exact ⟨⟨((A++[x],B),u),zae k1,hnext,k3,k4⟩,(hle_Q [(1,some 1),(2,some 2)]),by simp⟩
  refine zad ?_ ?_
  . simpa using d5
  conv=>whnf
  by_cases d6:x.times > x.tries
  case neg =>
   refine zab ?_ ?_
   . simpa using d6
   conv=>whnf
   (try (refine hcut.go ?_;conv=>whnf))
   refine sF ?_
   refine hQ _ _ ?_;conv=>whnf
   rw [expX,if_neg (by rw [hdue];simp [d1,d2,d3,d4,d5,d6])] at hnext
   exact ⟨⟨((A++[x],B),u),zae k1,hnext,k3,k4⟩,(hle_Q [(1,some 1),(2,some 2)]),by simp⟩
  refine zad ?_ ?_
  . simpa using d6
  conv=>whnf
  (try (refine hcut.go ?_;conv=>whnf))
  (refine cP ?_;refine dL pg ?_)
  refine sF ?_
  refine hQ _ _ ?_;conv=>whnf
  rw [expX,if_pos (by rw [hdue];simp [d1,d2,d3,d4,d5,d6])] at hnext kn
  exact ⟨⟨((A++[x],B),giveS u x.id),zae k1,hnext,kn.1,kn.2.trans k4⟩,(hle_Q [(1,some 1),(2,some 2)]),by simp⟩
 | nil =>
 have hz:=zaz k1
 rw [List.append_nil] at k1
 rw [<- k1,hE2] at k2
 subst k2
 refine sN ?_
 refine hQ _ _ ?_;conv=>whnf
 have hfe:=hES.fit
 (refine cP ?_;refine dL (Sco.zhd E.out E.cum hfe.out.len) ?_)
 refine sDm ?_
 have hpl:1 <= E.paths.length /\ E.paths.length <= 2:=by have:=hES.npaths;have:=zck hES.cfg;omega
 obtain ⟨hch,hch2⟩:=zcc (s:=E) (by omega)
 obtain ⟨w,hw⟩:∃ w,E.paths[choose E]?=some w:=⟨_,List.getElem?_eq_getElem hch2⟩
 have hc01:choose E=0 \/ choose E=1:=by omega
 have hge:=zuc (sk:=[]) hES.nums
 have pc:=Paths.zgc E.paths (by omega)
 rw [hch] at pc
 generalize hF:forward ⟨E,[[],[]]⟩=F
 refine hcut.meet PUnit (fun _=>hs 331 [(1,.ptr 1 0),(2,.ptr 2 0),(9,.ptr 96 0)] (puH E F)) ?_ ?_
 . conv=>whnf
   by_cases f1:E.forward=true
   case neg =>
    rw [zmd (.inl (by simpa using f1))] at hF
    subst hF
    refine zab (by simpa using f1) ?_;conv=>whnf
    exact ⟨⟨⟩,(hle_Q [(1,some 1),(2,some 2),(96,some 96),(900,none),(901,none)])⟩
   refine zad f1 ?_;conv=>whnf
   by_cases f2:(Sco.point E.out E.cum).1 > E.cum
   case neg =>
    rw [zmd (.inr (by unfold Sco.point at f2 ⊢;omega))] at hF
    subst hF
    refine zab (decide_eq_false f2) ?_;conv=>whnf
    exact ⟨⟨⟩,(hle_Q [(1,some 1),(2,some 2),(96,some 96),(900,none),(901,none)])⟩
   refine zad (decide_eq_true f2) ?_;conv=>whnf
   have fy:¬ (E.forward=false \/ (Sco.point E.out E.cum).1=E.cum):=by rintro (h | h);rw [f1] at h;cases h;omega
   rcases hc01 with hc | hc
   . rw [zop fy hw (l:=[]) (by rw [hc];rfl)] at hF
     rw [hc] at pc hw hF
     subst hF
     (refine cL ?_;refine dL pc ?_)
     refine ⟨0,rfl,by decide,?_⟩;conv=>whnf
     (refine cL ?_;refine dL (zbr _) ?_)
     refine zaa (c:=(1:Nat) * 128 <= 140737488355328) (by decide) ?_;conv=>whnf
     refine ⟨0,rfl,by decide,?_⟩;conv=>whnf
     refine sD ?_
     refine zaa (c:=(([]:List (List PV)).length+(E.paths.map Path.row).length) * 56 <= 140737488355328) (by simp;omega) ?_;conv=>whnf
     (try (refine hcut.go ?_;conv=>whnf))
     have hl:=(List.getElem?_eq_some_iff.1 hw).1
     refine sOm ?_
     refine zai (l:=E.paths) hw rfl ?_;conv=>whnf
     by_cases c3:w.alarm=0
     case neg =>
      have hr:([]:List (List PV))++E.paths.map Path.row=(E.paths.set 0 (alarm E w)).map Path.row:=by rw [zkd c3,zhc hw];rfl
      refine zab (beq_eq_false_iff_ne.2 c3) ?_;conv=>whnf
      exact ⟨⟨⟩,(hle_Z [158] [(1,some 1),(2,some 2),(96,some 96),(900,some 148),(901,none)] (by repeat' (first | exact z0 | refine z1 ?_ | refine ⟨?_,?_⟩ | ((exact congrArg (fun r=>HSlot.live (.cells 148 (pdC (fwdS E 0 w) (Sch.qs E.queue) (ints E.sched.had) (Sco.sents E.out) (.p (.sl 7 r)) (ints E.mids) (ints E.fates) (.own 148) hnil))) hr)) | exact z2)))⟩
     have hr:(([]:List (List PV))++E.paths.map Path.row).set 0 ({ w with alarm:=W (E.clock+w.wait) }:Path).row=(E.paths.set 0 (alarm E w)).map Path.row:=by rw [zhu c3,List.map_set];rfl
     refine zad (beq_iff_eq.2 c3) ?_;conv=>whnf
     refine sOm ?_
     refine zai (l:=E.paths) hw rfl ?_;conv=>whnf
     refine sRm ?_
     refine sOm ?_
     refine zai (l:=E.paths) hw rfl ?_;conv=>whnf
     refine sDm ?_
     exact ⟨⟨⟩,(hle_Z [158] [(1,some 1),(2,some 2),(96,some 96),(900,some 148),(901,none)] (by repeat' (first | exact z0 | refine z1 ?_ | refine ⟨?_,?_⟩ | ((exact congrArg (fun r=>HSlot.live (.cells 148 (pdC (fwdS E 0 w) (Sch.qs E.queue) (ints E.sched.had) (Sco.sents E.out) (.p (.sl 7 r)) (ints E.mids) (ints E.fates) (.own 148) hnil))) hr)) | exact z2)))⟩
   . rw [zop fy hw (l:=[]) (by rw [hc];rfl)] at hF
     rw [hc] at pc hw hF
     subst hF
     (refine cL ?_;refine dL pc ?_)
     refine ⟨1,rfl,by decide,?_⟩;conv=>whnf
     (refine cL ?_;refine dL (zbr _) ?_)
     refine zaa (c:=(1:Nat) * 128 <= 140737488355328) (by decide) ?_;conv=>whnf
     refine ⟨1,rfl,by decide,?_⟩;conv=>whnf
     refine sD ?_
     refine zaa (c:=(([]:List (List PV)).length+(E.paths.map Path.row).length) * 56 <= 140737488355328) (by simp;omega) ?_;conv=>whnf
     (try (refine hcut.go ?_;conv=>whnf))
     have hl:=(List.getElem?_eq_some_iff.1 hw).1
     refine sOm ?_
     refine zai (l:=E.paths) hw rfl ?_;conv=>whnf
     by_cases c3:w.alarm=0
     case neg =>
      have hr:([]:List (List PV))++E.paths.map Path.row=(E.paths.set 1 (alarm E w)).map Path.row:=by rw [zkd c3,zhc hw];rfl
      refine zab (beq_eq_false_iff_ne.2 c3) ?_;conv=>whnf
      exact ⟨⟨⟩,(hle_Z [158] [(1,some 1),(2,some 2),(96,some 96),(900,none),(901,some 148)] (by repeat' (first | exact z0 | refine z1 ?_ | refine ⟨?_,?_⟩ | ((exact congrArg (fun r=>HSlot.live (.cells 148 (pdC (fwdS E 1 w) (Sch.qs E.queue) (ints E.sched.had) (Sco.sents E.out) (.p (.sl 7 r)) (ints E.mids) (ints E.fates) hnil (.own 148)))) hr)) | exact z2)))⟩
     have hr:(([]:List (List PV))++E.paths.map Path.row).set 1 ({ w with alarm:=W (E.clock+w.wait) }:Path).row=(E.paths.set 1 (alarm E w)).map Path.row:=by rw [zhu c3,List.map_set];rfl
     refine zad (beq_iff_eq.2 c3) ?_;conv=>whnf
     refine sOm ?_
     refine zai (l:=E.paths) hw rfl ?_;conv=>whnf
     refine sRm ?_
     refine sOm ?_
     refine zai (l:=E.paths) hw rfl ?_;conv=>whnf
     refine sDm ?_
     exact ⟨⟨⟩,(hle_Z [158] [(1,some 1),(2,some 2),(96,some 96),(900,none),(901,some 148)] (by repeat' (first | exact z0 | refine z1 ?_ | refine ⟨?_,?_⟩ | ((exact congrArg (fun r=>HSlot.live (.cells 148 (pdC (fwdS E 1 w) (Sch.qs E.queue) (ints E.sched.had) (Sco.sents E.out) (.p (.sl 7 r)) (ints E.mids) (ints E.fates) hnil (.own 148)))) hr)) | exact z2)))⟩
 rintro ⟨⟩
 have hFs:SI N F.s:=hF ▸ zfm hES
 have hFL:SL F.s:=by unfold SL;rw [<- hF,zkp];exact hEL
 have hFo:F.out.length=2:=by rw [<- hF];unfold forward;split <;> simp [zdn]
 have hFp:F.s.paths.length=E.paths.length:=by rw [<- hF];unfold forward;split <;> simp [zdn]
 have hF01:(nth0 F.out).length <= 1 /\ (nth1 F.out).length <= 1:=by
  rw [<- hF];unfold forward;split
  . simp [nth0,nth1]
  . rcases hc01 with hc | hc <;> simp [hc,nth0,nth1,setAt]
 clear pc hge hw hc01 hch hch2 w
 obtain ⟨hch,hch2⟩:=zcc (s:=F.s) (by omega)
 have pc:=Paths.zgc F.s.paths (by omega)
 rw [hch] at pc
 have hc01:choose F.s=0 \/ choose F.s=1:=by omega
 generalize hcf:choose F.s=cf at pc hch2 hc01
 have hFN:=hFs.len
 have hNN:=hFs.few
 have hFl:=hFs.fit.out.len
 conv=>whnf
 (refine cL ?_;refine dL pc ?_)
 refine ⟨{ x:Nat × Pump // x.1 <= F.s.out.length /\ (List.range x.1).foldl (zbx (cf)) F=x.2 /\ SI N x.2.s /\ x.2.out.length=2 /\ x.2.s.paths.length=E.paths.length /\ x.2.s.out.length=F.s.out.length /\ (nth0 x.2.out).length <= 1+x.1 /\ (nth1 x.2.out).length <= 1+x.1 /\ SL x.2.s },fun | ⟨(i,p),_⟩=>hs 331 [(1,.ptr 1 0),(2,.ptr 2 0),(9,.ptr 96 0),(14,i64 (cf)),(196,i64 F.s.out.length),(197,i64 i)] (puH E p),fun x=>F.s.out.length - x.1.1,⟨(0,F),Nat.zero_le _,rfl,hFs,hFo,hFp,rfl,hF01.1,hF01.2,hFL⟩,?_,?_⟩
 . exact (hle_X [(1,some 1),(2,some 2),(96,some 96),(900,some 900),(901,some 901)] (by repeat' (first | exact z0 | refine z1 ?_ | refine ⟨?_,?_⟩ | ((exact zbg (by simp))) | exact z2)))
 rintro ⟨⟨i,p⟩,k1,k2,k3,k4,k5,k6,k7,k8,k9⟩
 dsimp only at k1 k2 k3 k4 k5 k6 k7 k8 k9
 refine zbk fun Q hQ=>?_
 conv=>whnf
 by_cases hi:i < F.s.out.length
 case pos =>
  obtain ⟨x,hx⟩:∃ x,p.s.out[i]?=some x:=⟨_,List.getElem?_eq_getElem (by omega)⟩
  obtain ⟨w,hw⟩:∃ w,p.s.paths[cf]?=some w:=⟨_,List.getElem?_eq_getElem (by omega)⟩
  have hst:=zfl (zbx (cf)) F i
  rw [k2] at hst
  obtain ⟨ps,po⟩:=p
  obtain ⟨a,c,hac⟩:∃ a c,po=[a,c]:=⟨_,_,yhs k4⟩
  subst hac
  have k7:a.length <= 1+i:=k7
  have k8:c.length <= 1+i:=k8
  dsimp only at hx hw k3 k5 k6 hst
  have hno:=zke (o:=[a,c]) (c:=cf) hx hw
  have hyes:=fun l (hl:[a,c][cf]?=some l)=>zhv (o:=[a,c]) (c:=cf) (l:=l) hx hw hl
  refine sT ?_
  refine zai hx rfl ?_;conv=>whnf
  by_cases d1:x.state=3
  case neg =>
   rw [hno fun h=>d1 h.1] at hst
   refine zab (beq_eq_false_iff_ne.2 d1) ?_;conv=>whnf
   (try (refine hcut.go ?_;conv=>whnf))
   refine sF ?_
   refine hQ _ _ ?_;conv=>whnf
   exact ⟨⟨(i+1,⟨ps,[a,c]⟩),by dsimp only;omega,hst,k3,rfl,k5,k6,by show a.length <= _;dsimp only;omega,by show c.length <= _;dsimp only;omega,k9⟩,(hle_Q [(1,some 1),(2,some 2),(96,some 96),(900,some 900),(901,some 901)]),by dsimp only;omega⟩
  refine zad (beq_iff_eq.2 d1) ?_;conv=>whnf
  have po:=zqy ps a c (cf) w hw (by omega)
  rw [show opened ps (cf)=decide (w.flight < w.window) by rw [opened,hw]] at po
  by_cases d2:w.flight < w.window
  case neg =>
   rw [hno fun h=>d2 h.2] at hst
   rw [decide_eq_false d2] at po
   (refine zag [] [(1000,96),(1007,900),(1008,901)] [] ?_;(conv=>whnf);refine dG po ?_)
   (try (refine hcut.go ?_;conv=>whnf))
   refine sF ?_
   refine hQ _ _ ?_;conv=>whnf
   exact ⟨⟨(i+1,⟨ps,[a,c]⟩),by dsimp only;omega,hst,k3,rfl,k5,k6,by show a.length <= _;dsimp only;omega,by show c.length <= _;dsimp only;omega,k9⟩,(hle_Q [(1,some 1),(2,some 2),(96,some 96),(900,some 900),(901,some 901)]),by dsimp only;omega⟩
  rw [decide_eq_true d2] at po
  (refine zag [] [(1000,96),(1007,900),(1008,901)] [] ?_;(conv=>whnf);refine dG po ?_)
  have hyes:=fun l hl=>hyes l hl ⟨d1,d2⟩
  have hn:=zkj (p:=⟨ps,[a,c]⟩) k3 (path:=cf) (by show cf < ps.paths.length;omega) i
  rcases hc01 with rfl | rfl
  . have hy:=hyes a rfl
    have hn1:=hn.1
    have hn2:=hn.2
    rw [hy] at hst hn1 hn2
    have hfe:=zjj (p:=⟨ps,[a,c]⟩) (N:=N) (i:=i) (path:=0) (by rw [zqq hx hw (l:=a) rfl];exact hn1) hx hw
    rw [zqq hx hw (l:=a) rfl] at hfe
    have pf:=zqz false ps (flyS ps i 0 x w) a c i x hx hn1.fit.out (by omega) hfe (by omega)
    (refine zag [] [(1000,96),(1007,900),(1008,901)] [(0,970)] ?_;(conv=>whnf);refine dG pf ?_)
    refine sF ?_
    refine hQ _ _ ?_;conv=>whnf
    exact ⟨⟨(i+1,⟨flyS ps i 0 x w,[a++[x.chunk],c]⟩),by dsimp only;omega,hst,hn1,rfl,hn2.trans k5,by show (ps.out.set i _).length=_;rw [List.length_set];exact k6,by show (a++[x.chunk]).length <= 1+(i+1);rw [List.length_append];simp only [List.length_cons,List.length_nil];omega,by show c.length <= 1+(i+1);omega,k9⟩,(hle_Q [(1,some 1),(2,some 2),(96,some 96),(900,some 970),(901,some 901)]),by dsimp only;omega⟩
  . have hy:=hyes c rfl
    have hn1:=hn.1
    have hn2:=hn.2
    rw [hy] at hst hn1 hn2
    have hfe:=zjj (p:=⟨ps,[a,c]⟩) (N:=N) (i:=i) (path:=1) (by rw [zqq hx hw (l:=c) rfl];exact hn1) hx hw
    rw [zqq hx hw (l:=c) rfl] at hfe
    have pf:=zra false ps (flyS ps i 1 x w) a c i x hx hn1.fit.out (by omega) hfe (by omega)
    (refine zag [] [(1000,96),(1007,900),(1008,901)] [(0,970)] ?_;(conv=>whnf);refine dG pf ?_)
    refine sF ?_
    refine hQ _ _ ?_;conv=>whnf
    exact ⟨⟨(i+1,⟨flyS ps i 1 x w,[a,c++[x.chunk]]⟩),by dsimp only;omega,hst,hn1,rfl,hn2.trans k5,by show (ps.out.set i _).length=_;rw [List.length_set];exact k6,by show a.length <= 1+(i+1);omega,by show (c++[x.chunk]).length <= 1+(i+1);rw [List.length_append];simp only [List.length_cons,List.length_nil];omega,k9⟩,(hle_Q [(1,some 1),(2,some 2),(96,some 96),(900,some 900),(901,some 970)]),by dsimp only;omega⟩
 have hin:i=F.s.out.length:=by omega
 subst hin
 have hag:again F=p:=by unfold again;rw [hcf];exact k2
 refine sN ?_
 refine hQ _ _ ?_;conv=>whnf
 generalize hN61:nexts 61 p=R
 refine ⟨{ x:Nat × Pump // nexts x.1 x.2=R /\ SI N x.2.s /\ x.2.out.length=2 /\ x.2.s.paths.length=E.paths.length /\ 61 <= x.1+x.2.s.out.length /\ x.1 <= 61 /\ (nth0 x.2.out).length+x.1 <= 62+F.s.out.length /\ (nth1 x.2.out).length+x.1 <= 62+F.s.out.length /\ SL x.2.s },fun | ⟨(j,p),_⟩=>hs 331 [(1,.ptr 1 0),(2,.ptr 2 0),(9,.ptr 96 0)] (puH E p),fun x=>x.1.1,⟨(61,p),hN61,k3,k4,k5,by dsimp only;omega,by dsimp only;omega,by dsimp only;omega,by dsimp only;omega,k9⟩,?_,?_⟩
 . exact (hle_Q [(1,some 1),(2,some 2),(96,some 96),(900,some 900),(901,some 901)])
 clear hQ Q k1 k2 k3 k4 k5 k6 k7 k8 k9 hi
 rintro ⟨⟨j,p'⟩,k1,k3,k4,k5,k6,k6',k7,k8,k9⟩
 dsimp only at k1 k3 k4 k5 k6 k6' k7 k8 k9
 refine zbk fun Q hQ=>?_
 conv=>whnf
 obtain ⟨ps,po⟩:=p'
 obtain ⟨a,c,hac⟩:∃ a c,po=[a,c]:=⟨_,_,yhs k4⟩
 subst hac
 have k7:a.length+j <= 62+F.s.out.length:=k7
 have k8:c.length+j <= 62+F.s.out.length:=k8
 dsimp only at k3 k5 k6 k9
 have pn:=zpb ps a c k3.pf.nfit (fun _=>k9) (by omega) (by omega) fun k m hm=>by
  have hc:=yil k3 hm
  have hx:(cutS ps k m).out[ps.out.length]?=some (⟨ps.next,m.id,0,0,0,0,m.came,m.message.life,m.message.tries,cut ps m (many ps m)⟩:Sent):=by
   show (ps.out++[_])[ps.out.length]?=_
   rw [List.getElem?_append_right (Nat.le_refl _)];simp
  have hcl:=choose_lt' k3
  obtain ⟨w,hw⟩:∃ w,ps.paths[choose ps]?=some w:=⟨_,List.getElem?_eq_getElem hcl⟩
  have hfs:SI N (fly ⟨cutS ps k m,[a,c]⟩ ps.out.length (choose ps)).s:=yij (p:=⟨cutS ps k m,[a,c]⟩) hc hx (by show (0:Int) ≠ 1;decide) hcl
  have hff:=zjj (p:=⟨cutS ps k m,[a,c]⟩) hfs hx hw
  refine ⟨?_,hff⟩
  have h:=hfs.fit.out
  rw [<- hff] at h
  exact h
 cases hnx:next ⟨ps,[a,c]⟩ with
 | some q =>
  rw [show nx ps [a,c]=(q,true) by rw [nx,hnx]] at pn
  obtain ⟨t1,t2,t3,t4,t5,t6⟩:=ymq hnx
  have hqs:=zox (p:=⟨ps,[a,c]⟩) k3 hnx
  have hql:=yjy (p:=⟨ps,[a,c]⟩) k3 hnx
  obtain ⟨j,rfl⟩:∃ j',j=j'+1:=⟨j - 1,by omega⟩
  rw [nexts,hnx] at k1
  (refine zag [] [(1000,96),(1007,900),(1008,901)] [(0,980),(1,981)] ?_;(conv=>whnf);refine dG pn ?_)
  refine hQ _ _ ?_;conv=>whnf
  exact ⟨⟨(j,q),k1,hqs,t2,t3.trans k5,by dsimp only;omega,by dsimp only;omega,by dsimp only;omega,by dsimp only;omega,hql⟩,(hle_Q [(1,some 1),(2,some 2),(96,some 96),(900,some 980),(901,some 981)]),by dsimp only;omega⟩
 | none =>
 rw [show nx ps [a,c]=(⟨ps,[a,c]⟩,false) by rw [nx,hnx]] at pn
 rw [zlj hnx] at k1
 (refine zag [] [(1000,96),(1007,900),(1008,901)] [(0,980),(1,981)] ?_;(conv=>whnf);refine dG pn ?_)
 refine hQ _ _ ?_;conv=>whnf
 subst k1
 have hout:=k3.fit.out.len
 clear hQ Q pn
 (refine cP ?_;refine dL (Sco.zhd ps.out ps.cum hout) ?_)
 refine sD ?_
 generalize hZ:(Sco.point ps.out ps.cum).1=Z
 refine ⟨{ x:List Path × List Path // ps.paths=x.1++x.2 },fun | ⟨(A,B),_⟩=>hs 331 [(1,.ptr 1 0),(2,.ptr 2 0),(9,.ptr 96 0),(10,i64 Z),(16,.own 910),(240,pths ps.paths),(241,i64 ps.paths.length),(242,i64 A.length)] ((910,rowW (A.map (wake ps Z))) :: puH E ⟨ps,[a,c]⟩),fun x=>x.1.2.length,⟨([],ps.paths),rfl⟩,?_,?_⟩
 . exact (hle_Q [(1,some 1),(2,some 2),(96,some 96),(900,some 980),(901,some 981),(910,none)])
 rintro ⟨⟨A,B⟩,h⟩
 dsimp only at h
 have hpql:ps.paths.length=A.length+B.length:=by rw [h];simp
 refine zbk fun Q hQ=>?_
 conv=>whnf
 cases B with
 | cons x B =>
  have hz:=zar h
  refine sT ?_
  refine zaj h rfl ?_;conv=>whnf
  (try (refine hcut.go ?_;conv=>whnf))
  by_cases f1:x.flight > 0
  case pos =>
   refine zad (decide_eq_true f1) ?_;conv=>whnf
   by_cases f2:x.alarm=0
   case pos =>
    have hwk:wake ps Z x={ x with alarm:=W (ps.clock+x.wait) }:=if_pos ⟨f1,f2⟩
    refine zad (beq_iff_eq.2 f2) ?_;conv=>whnf
    refine sR ?_
    refine sD ?_
    refine zaa (c:=(((A.map (wake ps Z)).map Path.row).length+1) * 56 <= 140737488355328) (by rw [List.length_map,List.length_map];omega) ?_;conv=>whnf
    refine sF ?_
    refine hQ _ _ ?_;conv=>whnf
    exact ⟨⟨(A++[x],B),zae h⟩,(hle_X [(1,some 1),(2,some 2),(96,some 96),(900,some 900),(901,some 901),(910,some 279)] (by repeat' (first | exact z0 | refine z1 ?_ | refine ⟨?_,?_⟩ | ((exact zat (f:=Path.row) (by rw [List.map_append];rfl) (by rw [hwk];rfl))) | exact z2))),by simp⟩
   have hwk:wake ps Z x=x:=by unfold wake;rw [if_neg (fun h=>f2 h.2),if_neg (fun h=>by omega)]
   refine zab (beq_eq_false_iff_ne.2 f2) ?_;conv=>whnf
   (try (refine hcut.go ?_;conv=>whnf))
   refine zab (beq_eq_false_iff_ne.2 (by omega)) ?_;conv=>whnf
   (try (refine hcut.go ?_;conv=>whnf))
   refine zaa (c:=(((A.map (wake ps Z)).map Path.row).length+1) * 56 <= 140737488355328) (by rw [List.length_map,List.length_map];omega) ?_;conv=>whnf
   refine sF ?_
   refine hQ _ _ ?_;conv=>whnf
   exact ⟨⟨(A++[x],B),zae h⟩,(hle_X [(1,some 1),(2,some 2),(96,some 96),(900,some 900),(901,some 901),(910,some 279)] (by repeat' (first | exact z0 | refine z1 ?_ | refine ⟨?_,?_⟩ | ((exact zat (f:=Path.row) (by rw [List.map_append];rfl) (by rw [hwk];rfl))) | exact z2))),by simp⟩
  refine zab (decide_eq_false f1) ?_;conv=>whnf
  (try (refine hcut.go ?_;conv=>whnf))
  by_cases f3:x.flight=0
  case neg =>
   have hwk:wake ps Z x=x:=by unfold wake;rw [if_neg (fun h=>f1 h.1),if_neg (fun h=>f3 h.1)]
   refine zab (beq_eq_false_iff_ne.2 f3) ?_;conv=>whnf
   (try (refine hcut.go ?_;conv=>whnf))
   refine zaa (c:=(((A.map (wake ps Z)).map Path.row).length+1) * 56 <= 140737488355328) (by rw [List.length_map,List.length_map];omega) ?_;conv=>whnf
   refine sF ?_
   refine hQ _ _ ?_;conv=>whnf
   exact ⟨⟨(A++[x],B),zae h⟩,(hle_X [(1,some 1),(2,some 2),(96,some 96),(900,some 900),(901,some 901),(910,some 279)] (by repeat' (first | exact z0 | refine z1 ?_ | refine ⟨?_,?_⟩ | ((exact zat (f:=Path.row) (by rw [List.map_append];rfl) (by rw [hwk];rfl))) | exact z2))),by simp⟩
  refine zad (beq_iff_eq.2 f3) ?_;conv=>whnf
  by_cases f4:Z=ps.cum
  case neg =>
   have hwk:wake ps Z x=x:=by unfold wake;rw [if_neg (fun h=>f1 h.1),if_neg (fun h=>f4 h.2)]
   refine zab (beq_eq_false_iff_ne.2 f4) ?_;conv=>whnf
   (try (refine hcut.go ?_;conv=>whnf))
   refine zaa (c:=(((A.map (wake ps Z)).map Path.row).length+1) * 56 <= 140737488355328) (by rw [List.length_map,List.length_map];omega) ?_;conv=>whnf
   refine sF ?_
   refine hQ _ _ ?_;conv=>whnf
   exact ⟨⟨(A++[x],B),zae h⟩,(hle_X [(1,some 1),(2,some 2),(96,some 96),(900,some 900),(901,some 901),(910,some 279)] (by repeat' (first | exact z0 | refine z1 ?_ | refine ⟨?_,?_⟩ | ((exact zat (f:=Path.row) (by rw [List.map_append];rfl) (by rw [hwk];rfl))) | exact z2))),by simp⟩
  have hwk:wake ps Z x={ x with alarm:=0 }:=by unfold wake;rw [if_neg (fun h=>f1 h.1),if_pos ⟨f3,f4⟩]
  refine zad (beq_iff_eq.2 f4) ?_;conv=>whnf
  (try (refine hcut.go ?_;conv=>whnf))
  refine zaa (c:=(((A.map (wake ps Z)).map Path.row).length+1) * 56 <= 140737488355328) (by rw [List.length_map,List.length_map];omega) ?_;conv=>whnf
  refine sF ?_
  refine hQ _ _ ?_;conv=>whnf
  exact ⟨⟨(A++[x],B),zae h⟩,(hle_X [(1,some 1),(2,some 2),(96,some 96),(900,some 900),(901,some 901),(910,some 279)] (by repeat' (first | exact z0 | refine z1 ?_ | refine ⟨?_,?_⟩ | ((exact zat (f:=Path.row) (by rw [List.map_append];rfl) (by rw [hwk];rfl))) | exact z2))),by simp⟩
 | nil =>
 have hz:=zaz h
 rw [List.append_nil] at h
 subst h
 refine sN ?_
 refine hQ _ _ ?_;conv=>whnf
 clear hQ Q
 have hok0:OK2 ⟨E,[[],[]]⟩:=by
  intro l hl x hx
  simp at hl
  rw [hl] at hx
  cases hx
 have hok:OK2 ⟨ps,[a,c]⟩:=by
  rw [<- hN61,<- hag,<- hF]
  exact zxn 61 (zna (zfm hES)) (ykb (zfm hES) (zzy hok0))
 have hP2:P=(woken ps,zay E.config.packet 0 [a,c]):=by
  obtain ⟨e1,e2⟩:=yms hES (by omega) E.config.packet
  rw [hP,<- hER.paths,<- hER.config,<- e1,<- e2,hF,hag,hN61]
 have hka:∀ x ∈ a,Okc x:=hok a (by simp)
 have hkc:∀ x ∈ c,Okc x:=hok c (by simp)
 subst hZ
 generalize hV:woken ps=V at hP2
 refine ⟨{ k:Nat // k <= 2 },fun | ⟨k,_⟩=>hs 331 [(1,.ptr 1 0),(2,.ptr 2 0),(9,.ptr 96 0),(19,.own 920),(289,.agg [.p (.sl 11 (a.map Chunk.row)),.p (.sl 11 (c.map Chunk.row))]),(290,i64 k)] [(1,scS E),(2,sc0),(96,.live (.cells 148 (pdC V (Sch.qs V.queue) (ints V.sched.had) (Sco.sents V.out) (pths V.paths) (ints V.mids) (ints V.fates) (.p (.sl 11 (a.map Chunk.row))) (.p (.sl 11 (c.map Chunk.row)))))),(920,rowPk (zay E.config.packet 0 ([a,c].take k)))],fun k=>2 - k.1,⟨0,by omega⟩,?_,?_⟩
 . subst hV
   exact (hle_Z [900,901,910] [(1,some 1),(2,some 2),(96,some 96),(920,none)] (by repeat' (first | exact z0 | refine z1 ?_ | refine ⟨?_,?_⟩ | exact z2)))
 rintro ⟨k,hk⟩
 refine zbk fun Q hQ=>?_
 conv=>whnf
 obtain rfl | rfl | rfl:k=0 \/ k=1 \/ k=2:=by omega
 . skip
   (try (refine hcut.go ?_;conv=>whnf))
   refine ⟨0,rfl,by decide,?_⟩;conv=>whnf
   refine ⟨{ x:Nat × List Chunk × List Packet // x.2.2++packN E.config.packet 0 x.1 x.2.1=zay E.config.packet 0 ([a,c].take (0+1)) /\ x.2.1.length <= x.1 /\ (∀ z ∈ x.2.1,Okc z) /\ x.2.2.length+x.2.1.length <= 2 ^ 36 },fun | ⟨(n,L,acc),_⟩=>hs 331 [(1,.ptr 1 0),(2,.ptr 2 0),(9,.ptr 96 0),(19,.own 920),(20,i64 0),(21,.p (.sl 11 (L.map Chunk.row))),(289,.agg [.p (.sl 11 (a.map Chunk.row)),.p (.sl 11 (c.map Chunk.row))]),(290,i64 0)] [(1,scS E),(2,sc0),(96,.live (.cells 148 (pdC V (Sch.qs V.queue) (ints V.sched.had) (Sco.sents V.out) (pths V.paths) (ints V.mids) (ints V.fates) (.p (.sl 11 (a.map Chunk.row))) (.p (.sl 11 (c.map Chunk.row)))))),(920,rowPk acc)],fun x=>x.1.2.1.length,⟨(a.length,a,zay E.config.packet 0 ([a,c].take 0)),ypy E.config.packet a c,Nat.le_refl _,hka,by have:=ykc E.config.packet a c;dsimp only at this ⊢;omega⟩,?_,?_⟩
   . exact (hle_Q [(1,some 1),(2,some 2),(96,some 96),(920,some 920)])
   rintro ⟨⟨n,L,acc⟩,i1,i2,i3,i4⟩
   dsimp only at i1 i2 i3 i4
   refine zbk fun Q2 hQ2=>?_
   conv=>whnf
   cases L with
   | nil =>
    rw [zhw,List.append_nil] at i1
    refine hQ2 _ _ ?_;conv=>whnf
    refine sF ?_
    refine hQ _ _ ?_;conv=>whnf
    exact ⟨⟨0+1,by omega⟩,(hle_X [(1,some 1),(2,some 2),(96,some 96),(920,some 920)] (by repeat' (first | exact z0 | refine z1 ?_ | refine ⟨?_,?_⟩ | ((exact congrArg rowPk i1)) | exact z2))),by dsimp only;omega⟩
   | cons z L =>
   obtain ⟨r,r1,r2,r3⟩:=zos (most:=E.config.packet) (l:=z :: L) (by simp)
   obtain ⟨n,rfl⟩:∃ n',n=n'+1:=⟨n - 1,by rw [List.length_cons] at i2;omega⟩
   refine sT ?_
   (refine cL ?_;refine dLm (Pck.zvp (z :: L) E.config.packet ⟨by omega,i3⟩) ?_)
   refine hcut.meet PUnit (fun _=>hs 331 [(1,.ptr 1 0),(2,.ptr 2 0),(9,.ptr 96 0),(19,.own 920),(20,i64 0),(21,.p (.sl 11 ((z :: L).map Chunk.row))),(22,i64 (room1 E.config.packet (z :: L))),(289,.agg [.p (.sl 11 (a.map Chunk.row)),.p (.sl 11 (c.map Chunk.row))]),(290,i64 0)] [(1,scS E),(2,sc0),(96,.live (.cells 148 (pdC V (Sch.qs V.queue) (ints V.sched.had) (Sco.sents V.out) (pths V.paths) (ints V.mids) (ints V.fates) (.p (.sl 11 (a.map Chunk.row))) (.p (.sl 11 (c.map Chunk.row)))))),(920,rowPk acc)]) ?_ ?_
   . conv=>whnf
     obtain ⟨rf,g1,g2,-⟩:=Pck.zyw (z :: L) E.config.packet
     by_cases e:Pck.zdq E.config.packet 0 0 (z :: L)=0
     case pos =>
      refine zad (beq_iff_eq.2 e) ?_;conv=>whnf
      exact ⟨⟨⟩,(hle_X [(1,some 1),(2,some 2),(96,some 96),(920,some 920)] (by repeat' (first | exact z0 | refine z1 ?_ | refine ⟨?_,?_⟩ | ((exact zbg (by unfold room1;rw [if_pos (by omega)]))) | exact z2)))⟩
     case neg =>
      refine zab (beq_eq_false_iff_ne.2 e) ?_;conv=>whnf
      exact ⟨⟨⟩,(hle_X [(1,some 1),(2,some 2),(96,some 96),(920,some 920)] (by repeat' (first | exact z0 | refine z1 ?_ | refine ⟨?_,?_⟩ | ((exact zbg (by unfold room1;rw [if_neg (by omega)]))) | exact z2)))⟩
   rintro ⟨⟩
   conv=>whnf
   (try (refine hcut.go ?_;conv=>whnf))
   refine zaa (by rw [List.length_map];omega) ?_;conv=>whnf
   refine zee (l:=z :: L) (by show 0+(room1 E.config.packet (z :: L) - 0).toNat <= (z :: L).length;omega) ?_
   conv=>whnf
   have hrt:(((z :: L).drop 0).take (room1 E.config.packet (z :: L) - 0).toNat)=(z :: L).take r:=by rw [List.drop_zero,r1];simp
   have pb:=Pck.zgd (((z :: L).drop 0).take (room1 E.config.packet (z :: L) - 0).toNat) E.config.packet (by rw [hrt];exact ⟨by rw [List.length_take];omega,fun c hc=>i3 c (List.mem_of_mem_take hc)⟩)
   generalize hK:Pck.pbytes (((z :: L).drop 0).take (room1 E.config.packet (z :: L) - 0).toNat) E.config.packet=K at pb
   rw [hrt] at hK
   obtain ⟨bts,er⟩:=K
   (refine cP ?_;refine dL pb ?_)
   refine sD ?_
   have hpn:packN E.config.packet 0 (n+1) (z :: L)=(if er=0 then [(⟨0,false,bts⟩:Packet)] else [])++packN E.config.packet 0 n ((z :: L).drop r):=by
    rw [packN,if_neg (by simp),pack1,r1,Int.toNat_natCast,hK]
   rw [hpn] at i1
   by_cases e:er=0
   case pos =>
    rw [if_pos e,<- List.append_assoc] at i1
    refine zad (beq_iff_eq.2 e) ?_;conv=>whnf
    refine zaa (c:=((acc.map Packet.row).length+1) * 40 <= 140737488355328) (by rw [List.length_map];omega) ?_;conv=>whnf
    have hr2:r=(room1 E.config.packet (z :: L)).toNat:=by rw [r1,Int.toNat_natCast]
    refine zaa (by rw [List.length_map];omega) ?_;conv=>whnf
    refine zez (l:=z :: L) (by show (room1 E.config.packet (z :: L)).toNat+(((List.map Chunk.row (z :: L)).length:Int) - room1 E.config.packet (z :: L)).toNat=(z :: L).length;rw [List.length_map];omega) ?_
    conv=>whnf
    refine hQ2 _ _ ?_;conv=>whnf
    exact ⟨⟨(n,(z :: L).drop r,(acc++[⟨0,false,bts⟩])),i1,by dsimp only;rw [List.length_drop];omega,fun x hx=>i3 x (List.mem_of_mem_drop hx),by dsimp only;rw [List.length_drop];simp only [List.length_append,List.length_cons,List.length_nil] at i4 ⊢;omega⟩,(hle_X [(1,some 1),(2,some 2),(96,some 96),(920,some 321)] (by repeat' (first | exact z0 | refine z1 ?_ | refine ⟨?_,?_⟩ | ((exact zat (f:=Packet.row) rfl rfl)) | ((exact congrArg (fun k=>HV.p (.sl 11 (((z :: L).drop k).map Chunk.row))) hr2)) | exact z2))),by dsimp only;rw [List.length_drop];omega⟩
   case neg =>
    rw [if_neg e,List.nil_append] at i1
    refine zab (beq_eq_false_iff_ne.2 e) ?_;conv=>whnf
    (try (refine hcut.go ?_;conv=>whnf))
    have hr2:r=(room1 E.config.packet (z :: L)).toNat:=by rw [r1,Int.toNat_natCast]
    refine zaa (by rw [List.length_map];omega) ?_;conv=>whnf
    refine zez (l:=z :: L) (by show (room1 E.config.packet (z :: L)).toNat+(((List.map Chunk.row (z :: L)).length:Int) - room1 E.config.packet (z :: L)).toNat=(z :: L).length;rw [List.length_map];omega) ?_
    conv=>whnf
    refine hQ2 _ _ ?_;conv=>whnf
    exact ⟨⟨(n,(z :: L).drop r,acc),i1,by dsimp only;rw [List.length_drop];omega,fun x hx=>i3 x (List.mem_of_mem_drop hx),by dsimp only;rw [List.length_drop];simp only [List.length_append,List.length_cons,List.length_nil] at i4 ⊢;omega⟩,(hle_X [(1,some 1),(2,some 2),(96,some 96),(920,some 920)] (by repeat' (first | exact z0 | refine z1 ?_ | refine ⟨?_,?_⟩ | ((exact congrArg (fun k=>HV.p (.sl 11 (((z :: L).drop k).map Chunk.row))) hr2)) | exact z2))),by dsimp only;rw [List.length_drop];omega⟩
 . skip
   (try (refine hcut.go ?_;conv=>whnf))
   refine ⟨1,rfl,by decide,?_⟩;conv=>whnf
   refine ⟨{ x:Nat × List Chunk × List Packet // x.2.2++packN E.config.packet 1 x.1 x.2.1=zay E.config.packet 0 ([a,c].take (1+1)) /\ x.2.1.length <= x.1 /\ (∀ z ∈ x.2.1,Okc z) /\ x.2.2.length+x.2.1.length <= 2 ^ 36 },fun | ⟨(n,L,acc),_⟩=>hs 331 [(1,.ptr 1 0),(2,.ptr 2 0),(9,.ptr 96 0),(19,.own 920),(20,i64 1),(21,.p (.sl 11 (L.map Chunk.row))),(289,.agg [.p (.sl 11 (a.map Chunk.row)),.p (.sl 11 (c.map Chunk.row))]),(290,i64 1)] [(1,scS E),(2,sc0),(96,.live (.cells 148 (pdC V (Sch.qs V.queue) (ints V.sched.had) (Sco.sents V.out) (pths V.paths) (ints V.mids) (ints V.fates) (.p (.sl 11 (a.map Chunk.row))) (.p (.sl 11 (c.map Chunk.row)))))),(920,rowPk acc)],fun x=>x.1.2.1.length,⟨(c.length,c,zay E.config.packet 0 ([a,c].take 1)),ypz E.config.packet a c,Nat.le_refl _,hkc,by have:=ykd E.config.packet a c;dsimp only at this ⊢;omega⟩,?_,?_⟩
   . exact (hle_Q [(1,some 1),(2,some 2),(96,some 96),(920,some 920)])
   rintro ⟨⟨n,L,acc⟩,i1,i2,i3,i4⟩
   dsimp only at i1 i2 i3 i4
   refine zbk fun Q2 hQ2=>?_
   conv=>whnf
   cases L with
   | nil =>
    rw [zhw,List.append_nil] at i1
    refine hQ2 _ _ ?_;conv=>whnf
    refine sF ?_
    refine hQ _ _ ?_;conv=>whnf
    exact ⟨⟨1+1,by omega⟩,(hle_X [(1,some 1),(2,some 2),(96,some 96),(920,some 920)] (by repeat' (first | exact z0 | refine z1 ?_ | refine ⟨?_,?_⟩ | ((exact congrArg rowPk i1)) | exact z2))),by dsimp only;omega⟩
   | cons z L =>
   obtain ⟨r,r1,r2,r3⟩:=zos (most:=E.config.packet) (l:=z :: L) (by simp)
   obtain ⟨n,rfl⟩:∃ n',n=n'+1:=⟨n - 1,by rw [List.length_cons] at i2;omega⟩
   refine sT ?_
   (refine cL ?_;refine dLm (Pck.zvp (z :: L) E.config.packet ⟨by omega,i3⟩) ?_)
   refine hcut.meet PUnit (fun _=>hs 331 [(1,.ptr 1 0),(2,.ptr 2 0),(9,.ptr 96 0),(19,.own 920),(20,i64 1),(21,.p (.sl 11 ((z :: L).map Chunk.row))),(22,i64 (room1 E.config.packet (z :: L))),(289,.agg [.p (.sl 11 (a.map Chunk.row)),.p (.sl 11 (c.map Chunk.row))]),(290,i64 1)] [(1,scS E),(2,sc0),(96,.live (.cells 148 (pdC V (Sch.qs V.queue) (ints V.sched.had) (Sco.sents V.out) (pths V.paths) (ints V.mids) (ints V.fates) (.p (.sl 11 (a.map Chunk.row))) (.p (.sl 11 (c.map Chunk.row)))))),(920,rowPk acc)]) ?_ ?_
   . conv=>whnf
     obtain ⟨rf,g1,g2,-⟩:=Pck.zyw (z :: L) E.config.packet
     by_cases e:Pck.zdq E.config.packet 0 0 (z :: L)=0
     case pos =>
      refine zad (beq_iff_eq.2 e) ?_;conv=>whnf
      exact ⟨⟨⟩,(hle_X [(1,some 1),(2,some 2),(96,some 96),(920,some 920)] (by repeat' (first | exact z0 | refine z1 ?_ | refine ⟨?_,?_⟩ | ((exact zbg (by unfold room1;rw [if_pos (by omega)]))) | exact z2)))⟩
     case neg =>
      refine zab (beq_eq_false_iff_ne.2 e) ?_;conv=>whnf
      exact ⟨⟨⟩,(hle_X [(1,some 1),(2,some 2),(96,some 96),(920,some 920)] (by repeat' (first | exact z0 | refine z1 ?_ | refine ⟨?_,?_⟩ | ((exact zbg (by unfold room1;rw [if_neg (by omega)]))) | exact z2)))⟩
   rintro ⟨⟩
   conv=>whnf
   (try (refine hcut.go ?_;conv=>whnf))
   refine zaa (by rw [List.length_map];omega) ?_;conv=>whnf
   refine zee (l:=z :: L) (by show 0+(room1 E.config.packet (z :: L) - 0).toNat <= (z :: L).length;omega) ?_
   conv=>whnf
   have hrt:(((z :: L).drop 0).take (room1 E.config.packet (z :: L) - 0).toNat)=(z :: L).take r:=by rw [List.drop_zero,r1];simp
   have pb:=Pck.zgd (((z :: L).drop 0).take (room1 E.config.packet (z :: L) - 0).toNat) E.config.packet (by rw [hrt];exact ⟨by rw [List.length_take];omega,fun c hc=>i3 c (List.mem_of_mem_take hc)⟩)
   generalize hK:Pck.pbytes (((z :: L).drop 0).take (room1 E.config.packet (z :: L) - 0).toNat) E.config.packet=K at pb
   rw [hrt] at hK
   obtain ⟨bts,er⟩:=K
   (refine cP ?_;refine dL pb ?_)
   refine sD ?_
   have hpn:packN E.config.packet 1 (n+1) (z :: L)=(if er=0 then [(⟨1,false,bts⟩:Packet)] else [])++packN E.config.packet 1 n ((z :: L).drop r):=by
    rw [packN,if_neg (by simp),pack1,r1,Int.toNat_natCast,hK]
   rw [hpn] at i1
   by_cases e:er=0
   case pos =>
    rw [if_pos e,<- List.append_assoc] at i1
    refine zad (beq_iff_eq.2 e) ?_;conv=>whnf
    refine zaa (c:=((acc.map Packet.row).length+1) * 40 <= 140737488355328) (by rw [List.length_map];omega) ?_;conv=>whnf
    have hr2:r=(room1 E.config.packet (z :: L)).toNat:=by rw [r1,Int.toNat_natCast]
    refine zaa (by rw [List.length_map];omega) ?_;conv=>whnf
    refine zez (l:=z :: L) (by show (room1 E.config.packet (z :: L)).toNat+(((List.map Chunk.row (z :: L)).length:Int) - room1 E.config.packet (z :: L)).toNat=(z :: L).length;rw [List.length_map];omega) ?_
    conv=>whnf
    refine hQ2 _ _ ?_;conv=>whnf
    exact ⟨⟨(n,(z :: L).drop r,(acc++[⟨1,false,bts⟩])),i1,by dsimp only;rw [List.length_drop];omega,fun x hx=>i3 x (List.mem_of_mem_drop hx),by dsimp only;rw [List.length_drop];simp only [List.length_append,List.length_cons,List.length_nil] at i4 ⊢;omega⟩,(hle_X [(1,some 1),(2,some 2),(96,some 96),(920,some 321)] (by repeat' (first | exact z0 | refine z1 ?_ | refine ⟨?_,?_⟩ | ((exact zat (f:=Packet.row) rfl rfl)) | ((exact congrArg (fun k=>HV.p (.sl 11 (((z :: L).drop k).map Chunk.row))) hr2)) | exact z2))),by dsimp only;rw [List.length_drop];omega⟩
   case neg =>
    rw [if_neg e,List.nil_append] at i1
    refine zab (beq_eq_false_iff_ne.2 e) ?_;conv=>whnf
    (try (refine hcut.go ?_;conv=>whnf))
    have hr2:r=(room1 E.config.packet (z :: L)).toNat:=by rw [r1,Int.toNat_natCast]
    refine zaa (by rw [List.length_map];omega) ?_;conv=>whnf
    refine zez (l:=z :: L) (by show (room1 E.config.packet (z :: L)).toNat+(((List.map Chunk.row (z :: L)).length:Int) - room1 E.config.packet (z :: L)).toNat=(z :: L).length;rw [List.length_map];omega) ?_
    conv=>whnf
    refine hQ2 _ _ ?_;conv=>whnf
    exact ⟨⟨(n,(z :: L).drop r,acc),i1,by dsimp only;rw [List.length_drop];omega,fun x hx=>i3 x (List.mem_of_mem_drop hx),by dsimp only;rw [List.length_drop];simp only [List.length_append,List.length_cons,List.length_nil] at i4 ⊢;omega⟩,(hle_X [(1,some 1),(2,some 2),(96,some 96),(920,some 920)] (by repeat' (first | exact z0 | refine z1 ?_ | refine ⟨?_,?_⟩ | ((exact congrArg (fun k=>HV.p (.sl 11 (((z :: L).drop k).map Chunk.row))) hr2)) | exact z2))),by dsimp only;rw [List.length_drop];omega⟩
 (try (refine hcut.go ?_;conv=>whnf))
 refine hQ _ _ ?_;conv=>whnf
 rw [hP2]
 try rfl
end Snd
end Go.HL
namespace Go.HL
open Go.Proofs
namespace Snd
open Ser
set_option maxHeartbeats 8000000
set_option maxRecDepth 100000
set_option linter.unusedSimpArgs false
theorem zrm (s:Sender) (m:Message) (hs:Fit s) (hd:m.data.length < 2 ^ 38) :
 FunOK Tryz.prog 32 [s.hv,m.hv] zac (.tup [(sendR s m).1.hv,i64 (sendR s m).2.1,i64 (sendR s m).2.2]) zac:=by
 obtain ⟨h1,h2,h3,h4,h5,h6,h7⟩:=hs
 refine zah mixed Tryz.func32 (by decide) ?_
 conv=>whnf
 (repeat' (first | (refine zbc ?_;conv=>whnf) | (refine zaa ?_ ?_;(first | kernel_rfl | decide);conv=>whnf) | (refine zas ?_ ?_;kernel_rfl;conv=>whnf) | (refine hcut.go ?_;conv=>whnf) | (refine zaf (fun h=>?_) (fun h=>?_) <;> conv=>whnf)))
 all_goals try simp only [Bool.not_eq_true',Bool.not_eq_false',beq_iff_eq,beq_eq_false_iff_ne,decide_eq_true_eq,decide_eq_false_iff_not,List.length_map] at *
 all_goals first
  | (rw [zge (e:=3) (by simp only [zdo];(repeat' split) <;> first | rfl | omega) (by decide)];rfl)
  | (rw [zge (e:=4) (by simp only [zdo];(repeat' split) <;> first | rfl | omega) (by decide)];rfl)
  | (rw [zge (e:=7) (by simp only [zdo];(repeat' split) <;> first | rfl | omega) (by decide)];rfl)
  | rw [zkh (by simp only [zdo];(repeat' split) <;> first | rfl | omega)]
 refine zaa (c:=(([]:List (List PV)).length+s.queue.length) * 96 <= 140737488355328) (by simp;omega) ?_;conv=>whnf
 refine zaa (c:=((([]:List (List PV))++s.queue.map Queued.row).length+1) * 96 <= 140737488355328) (by simp;omega) ?_;conv=>whnf
 refine sD ?_
 refine zaa (c:=(([]:List (List PV)).length+(s.fates.map fun n=>[pi n]).length) * 8 <= 140737488355328) (by simp;omega) ?_;conv=>whnf
 refine zaa (c:=((([]:List (List PV))++s.fates.map fun n=>[pi n]).length+1) * 8 <= 140737488355328) (by simp;omega) ?_;conv=>whnf
 have hq:(([]:List (List PV))++s.queue.map Queued.row)++[(⟨s.fates.length,-1,s.clock,0,0,m⟩:Queued).row]=(sendS s m).queue.map Queued.row:=by simp [sendS]
 have hf:(([]:List (List PV))++s.fates.map fun n=>[pi n])++[[pi 1]]=(sendS s m).fates.map fun n=>[pi n]:=by simp [sendS]
 show HV.tup [.agg (sndC s (.p (.sl 10 ((([]:List (List PV))++s.queue.map Queued.row)++[(⟨s.fates.length,-1,s.clock,0,0,m⟩:Queued).row]))) (ints s.sched.had) (Sco.sents s.out) (pths s.paths) (ints s.mids) (.p (.sl 1 ((([]:List (List PV))++s.fates.map fun n=>[pi n])++[[pi 1]])))),i64 s.fates.length,i64 0]=_
 rw [hq,hf];rfl
def wrL (c:Config):List (Int × Int × Int):=[(c.streams,1,4),(c.paths,1,2),(c.part,1,16),(c.packet,40,120),(c.waiting,1,12),(c.first,0,65535)]
abbrev wrR (x:Int × Int × Int):List PV:=[pi x.1,pi x.2.1,pi x.2.2]
theorem ynp {c:Config} {x:Int × Int × Int} (hx:x ∈ wrL c) (h:x.1 < x.2.1 \/ x.1 > x.2.2):wrgS c=3:=by
 have:c.streams < 1 \/ c.streams > 4 \/ c.paths < 1 \/ c.paths > 2 \/ c.part < 1 \/ c.part > 16 \/ c.packet < 40 \/ c.packet > 120 \/ c.waiting < 1 \/ c.waiting > 12 \/ c.first < 0 \/ c.first >= 65536:=by
  simp only [wrL,List.mem_cons,List.not_mem_nil,or_false] at hx
  rcases hx with rfl | rfl | rfl | rfl | rfl | rfl <;> dsimp only at h <;> omega
 unfold wrgS;rw [if_pos this]
theorem wr_ok {c:Config} (h:∀ x ∈ wrL c,¬ (x.1 < x.2.1 \/ x.1 > x.2.2)):wrgS c=if c.turns < 1 \/ c.turns > 5 then 1 else 0:=by
 have h1:=h (c.streams,1,4) (by simp [wrL])
 have h2:=h (c.paths,1,2) (by simp [wrL])
 have h3:=h (c.part,1,16) (by simp [wrL])
 have h4:=h (c.packet,40,120) (by simp [wrL])
 have h5:=h (c.waiting,1,12) (by simp [wrL])
 have h6:=h (c.first,0,65535) (by simp [wrL])
 dsimp only at h1 h2 h3 h4 h5 h6
 unfold wrgS;rw [if_neg (by omega)]
theorem zeq (c:Config):FunOK Tryz.prog 59 [c.hv] zac (i64 (wrgS c)) zac:=by
 refine zah mixed Tryz.func59 (by decide) ?_
 conv=>whnf
 refine ⟨{ x:List (Int × Int × Int) × List (Int × Int × Int) // wrL c=x.1++x.2 /\ ∀ y ∈ x.1,¬ (y.1 < y.2.1 \/ y.1 > y.2.2) },fun | ⟨(A,B),_⟩=>hs 50 [(1,.ptr 1 0),(23,.own 900),(24,i64 (wrL c).length),(25,i64 A.length)] [(1,.live (.cells 24 c.cells)),(900,.live (.row 103 3 ((wrL c).map wrR)))],fun x=>x.1.2.length,⟨([],wrL c),rfl,by simp⟩,?_,?_⟩
 . exact (hle_Q [(1,some 1),(900,some 23)])
 rintro ⟨⟨A,B⟩,h,hA⟩
 dsimp only at h hA
 conv=>whnf
 cases B with
 | cons x B =>
  have hz:=zar h
  have hx:=zfb h
  have h6:(wrL c).length=6:=rfl
  refine sT ?_
  refine sO ?_
  refine zaj (f:=wrR) h rfl ?_;conv=>whnf
  (try (refine hcut.go ?_;conv=>whnf))
  refine ⟨0,rfl,by decide,?_⟩;conv=>whnf
  refine ⟨1,rfl,by decide,?_⟩;conv=>whnf
  by_cases c1:x.1 < x.2.1
  case pos =>
   rw [ynp hx (.inl c1)]
   refine zad (decide_eq_true c1) ?_;conv=>whnf
   try rfl
  refine zab (decide_eq_false c1) ?_;conv=>whnf
  refine ⟨0,rfl,by decide,?_⟩;conv=>whnf
  refine ⟨2,rfl,by decide,?_⟩;conv=>whnf
  by_cases c2:x.1 > x.2.2
  case pos =>
   rw [ynp hx (.inr c2)]
   refine zad (decide_eq_true c2) ?_;conv=>whnf
   try rfl
  refine zab (decide_eq_false c2) ?_;conv=>whnf
  (try (refine hcut.go ?_;conv=>whnf))
  refine sF ?_
  exact ⟨⟨(A++[x],B),zae h,fun y hy=>by rcases List.mem_append.1 hy with hy | hy;exact hA y hy;rw [List.mem_singleton] at hy;subst hy;exact fun h=>h.elim c1 c2⟩,(hle_Q [(1,some 1),(900,some 900)]),by simp⟩
 | nil =>
  have hz:=zaz h
  rw [List.append_nil] at h
  rw [<- h] at hA
  rw [wr_ok hA]
  refine sN ?_
  by_cases c1:c.turns < 1
  case pos =>
   rw [if_pos (.inl c1)]
   refine zad (decide_eq_true c1) ?_;conv=>whnf
   try rfl
  refine zab (decide_eq_false c1) ?_;conv=>whnf
  by_cases c2:c.turns > 5
  case pos =>
   rw [if_pos (.inr c2)]
   refine zad (decide_eq_true c2) ?_;conv=>whnf
   try rfl
  rw [if_neg (fun h=>h.elim c1 c2)]
  refine zab (decide_eq_false c2) ?_;conv=>whnf
  try rfl
theorem zrn (c:Config):FunOK Tryz.prog 27 [c.hv] zac (.tup [(newP c).1.hv,i64 (newP c).2]) zac:=by
 refine zah mixed Tryz.func27 (by decide) ?_
 conv=>whnf
 (refine cP ?_;refine dL (zeq c) ?_)
 by_cases c0:wrgS c=0
 case neg =>
  rw [newP,if_neg c0]
  refine zad (bne_iff_ne.2 c0) ?_;conv=>whnf
  try rfl
 rw [newP,if_pos c0]
 refine zab (by simpa using c0) ?_;conv=>whnf
 (try (refine hcut.go ?_;conv=>whnf))
 obtain ⟨b1,b2,b3,b4,b5,b6,b7,b8,b9,b10,b11,b12,-⟩:=zck c0
 refine zan (z:=c.first - 1) (W_fit (by omega) (by omega)) ?_;conv=>whnf
 refine zan (z:=c.first - 1) (W_fit (by omega) (by omega)) ?_;conv=>whnf
 refine zan (z:=2 * c.streams) (W_fit (by omega) (by omega)) ?_;conv=>whnf
 refine zaa (c:=0 <= 2 * c.streams /\ 2 * c.streams=2 * c.streams /\ 2 * c.streams * (8:Nat) <= 140737488355328) ⟨by omega,rfl,by omega⟩ ?_;conv=>whnf
 refine zan (z:=c.streams - 1) (W_fit (by omega) (by omega)) ?_;conv=>whnf
 refine zaa (c:=0 <= c.streams /\ c.streams=c.streams /\ c.streams * (8:Nat) <= 140737488355328) ⟨by omega,rfl,by omega⟩ ?_;conv=>whnf
 refine sD ?_
 have hsl:c.streams - 1=(Sch.new c.streams).last:=(W_fit (by omega) (by omega)).symm
 refine ⟨{ i:Nat // (i:Int) <= c.paths },fun | ⟨i,_⟩=>hs 51 [(1,.ptr 1 0),(2,.ptr 2 0),(5,.ptr 5 0),(34,i64 c.paths),(35,i64 i)] [(1,.live (.cells 24 [i64 c.streams,i64 c.part,i64 c.packet,i64 c.paths,i64 (c).turns,i64 c.waiting,i64 c.first])),(2,sc0),(5,.live (.cells 32 (sndC (newS c) hnil (.own 901) hnil (.own 900) (.own 902) hnil))),(900,rowW (List.replicate i (Paths.new c.part))),(901,rowT (Sch.new c.streams).had),(902,rowT (List.replicate (2 * c.streams).toNat 0))],fun i=>c.paths.toNat - i.1,⟨0,by omega⟩,?_,?_⟩
 . exact (hle_X [(1,some 1),(2,some 2),(5,some 5),(900,none),(901,some 30),(902,some 24)] (by repeat' (first | exact z0 | refine z1 ?_ | refine ⟨?_,?_⟩ | ((exact zao (by rw [List.map_replicate];rfl))) | ((refine zao ?_;rw [show (Sch.new c.streams).had=List.replicate (max c.streams 0).toNat 0 from rfl,List.map_replicate,show max c.streams 0=c.streams by omega];rfl)) | ((exact congrArg (fun z=>HSlot.live (.cells 32 (sndC { newS c with sched:=⟨z,-1,[]⟩ } hnil (.own 30) hnil hnil (.own 24) hnil))) hsl)) | exact z2)))
 rintro ⟨i,k1⟩
 conv=>whnf
 by_cases hi:(i:Int) < c.paths
 case pos =>
  refine sT ?_
  refine sR ?_
  refine sR ?_
  refine zaa (c:=(((List.replicate i (Paths.new c.part)).map Path.row).length+1) * 56 <= 140737488355328) (by simp;omega) ?_;conv=>whnf
  refine sF ?_
  exact ⟨⟨i+1,by omega⟩,(hle_X [(1,some 1),(2,some 2),(5,some 5),(900,some 47),(901,some 901),(902,some 902)] (by repeat' (first | exact z0 | refine z1 ?_ | refine ⟨?_,?_⟩ | ((exact zat (f:=Path.row) List.replicate_succ' rfl)) | exact z2))),by dsimp only;omega⟩
 case neg =>
  have hin:c.paths.toNat=i:=by omega
  refine sN ?_
  rw [show (newS c)={ newS c with paths:=List.replicate i (Paths.new c.part) } by rw [<- hin];rfl]
  try rfl
end Snd
end Go.HL
namespace Go.HL
open Go.Proofs
namespace Snd
open Ser
set_option maxHeartbeats 8000000
set_option maxRecDepth 100000
set_option linter.unusedSimpArgs false
theorem PF.down {j i:Nat} {s:Sender} (h:PF (j+i) s):PF j s:=⟨h.g,h.some,h.part,h.part2,h.msg,h.chunk,Nat.lt_of_le_of_lt (Nat.add_le_add_left (Nat.mul_le_mul_right _ (Nat.le_add_right j i)) _) h.bytes,h.few⟩
theorem PO.down {g:Config} {j i n k:Nat} {p:Pump} (h:PO g (j+i) n k p):PO g j n k p:=⟨h.pf.down,h.paths,h.outs,h.config,h.most⟩
theorem ydd:∀ (i:Nat) {g:Config} {j n k:Nat} {p:Pump},PO g (j+i) n k p -> PO g j n (k+i) (nexts i p)
 | 0,_,_,_,_,_,h=>h
 | i+1,g,j,n,k,p,h=>by
  unfold nexts
  rcases zza (j:=j+i) h with ⟨-,e⟩ | ⟨q,-,e,-,-,h2⟩
  . rw [e];exact h.down.mono (by omega)
  . rw [e]
    have:=ydd i h2
    exact this.mono (by omega)
theorem zxr (most path:Int):∀ (n:Nat) (l:List Chunk),(packN most path n l).length <= n
 | 0,l=>by simp [packN]
 | n+1,l=>by
  have:=zxr most path n (l.drop (room1 most l).toNat)
  have h1:(pack1 most path l).length <= 1:=by unfold pack1;split <;> simp
  unfold packN
  split
  . simp
  . rw [List.length_append];omega
theorem zmh (most:Int) {k:Nat}:∀ (ls:List (List Chunk)) (i:Nat),(∀ l ∈ ls,l.length <= k) -> (zay most i ls).length <= k * ls.length
 | [],i,_=>by simp [zay]
 | l :: ls,i,h=>by
  have h1:=zxr most i l.length l
  have h2:=zmh most ls (i+1) fun x hx=>h x (by simp [hx])
  have h3:=h l (by simp)
  unfold zay
  rw [List.length_append,List.length_cons,Nat.mul_add];omega
theorem ziu {N:Nat} {s:Sender} (h:SI N s):(pump s).2.length < 2 ^ 62:=by
 have e1:=ztl (zin (zkg h.pf))
 have e2:=ydd (j:=1) 61 e1
 have h1:=(zin (zkg h.pf)).pf.few
 have h2:=h.npaths
 have h3:=zck h.cfg
 have h4:=zmh s.config.packet (pumpP s).out 0 fun l hl=>(e2.most l hl).1
 have h5:(pumpP s).out.length=s.paths.length:=e2.outs
 rw [h5] at h4
 have h6:s.paths.length <= 2:=by omega
 show (zay s.config.packet 0 (pumpP s).out).length < _
 refine Nat.lt_of_le_of_lt h4 (Nat.lt_of_le_of_lt (Nat.mul_le_mul_left _ h6) ?_)
 omega
end Snd
namespace Ln
open Ser
set_option maxHeartbeats 8000000
set_option maxRecDepth 100000
set_option linter.unusedSimpArgs false
def noR:Receiver:=⟨⟨0,0,0,0,0,0,0⟩,0,[],[],[],[]⟩
def noL:Line:=⟨Snd.noS,noR,[]⟩
def newLP (c:Config):Line × Int:=if Snd.wrgS c=0 then (newL c,0) else (noL,Snd.wrgS c)
end Ln
end Go.HL
namespace Go.HL
open Go.Proofs
namespace Snd
open Ser
set_option maxHeartbeats 8000000
set_option maxRecDepth 100000
set_option linter.unusedSimpArgs false
theorem SL.side {s t:Sender} (h:SL s) (e:t.sched=s.sched):SL t:=by unfold SL;rw [e];exact h
theorem zxs (s:Sender):(Snd.settle s).sched=s.sched:=rfl
theorem yke {s:Sender} (h:SL s) (c:Chunk):SL (hear s c):=by
 unfold hear
 split
 . exact h
 split
 . exact h
 rw [zmy]
 refine h.side ?_
 rw [zxs]
 unfold zel
 have hU:∀ p l,(zhg p (zki s c (Sco.sack s.out s.cum c s.paths.length)) l).sched=s.sched:=fun p l=>by
  unfold zhg
  split
  . rfl
  . split <;> rfl
 split
 . exact hU _ _
 . exact hU _ _
theorem zph (part:Int):∀ (l:List Nat) (s:Sender),(l.foldl (late1 part) s).sched=s.sched
 | [],_=>rfl
 | i :: l,s=>by
  rw [List.foldl_cons,zph part l]
  unfold late1
  split
  . rfl
  split
  . rfl
  . dsimp only;split <;> rfl
theorem zzz {s:Sender} (h:SL s):SL (tick s):=h.side (zph _ _ _)
theorem zmi {path:Nat}:∀ (l:List Nat) (p:Pump),(l.foldl (zbx path) p).s.sched=p.s.sched
 | [],_=>rfl
 | i :: l,p=>by
  rw [List.foldl_cons,zmi l]
  unfold zbx
  split
  . rfl
  . split
    . exact zxm _ _ _
    . rfl
theorem yde {N:Nat}:∀ (n:Nat) {p:Pump},SI N p.s -> SL p.s -> SL (nexts n p).s
 | 0,_,_,h=>h
 | n+1,p,hS,h=>by
  rw [nexts]
  cases hq:next p with
  | none=>exact h
  | some q=>exact yde n (zox hS hq) (yjy hS hq)
theorem ypc {N:Nat} {s:Sender} (hS:SI N s) (h:SL s):SL (pump s).1:=by
 have h1:=zxl h
 have s1:=(zov hS).1
 have s2:=zfm (o:=List.replicate s.paths.length []) s1
 have h2:SL (forward ⟨expire s,List.replicate s.paths.length []⟩).s:=h1.side (zkp _)
 have h3:SL (again (forward ⟨expire s,List.replicate s.paths.length []⟩)).s:=h2.side (zmi _ _)
 exact (yde 61 (zna s2) h3).side rfl
theorem ykf {c:Config} (h:wrgS c=0):SL (newS c):=by
 have hw:=zck h
 have e1:(newS c).sched=Sch.new c.streams:=rfl
 unfold SL
 rw [e1]
 unfold Sch.new
 dsimp only
 rw [W_fit (by omega) (by omega),List.length_replicate]
 omega
end Snd
namespace Ln
open Ser
set_option maxHeartbeats 8000000
set_option maxRecDepth 100000
set_option linter.unusedSimpArgs false
theorem ydf {back:Bool}:∀ (cs:List Chunk) {x:Line × Bool},Snd.SL x.1.sender -> Snd.SL (cs.foldl (hear1 back) x).1.sender
 | [],_,h=>h
 | c :: cs,x,h=>by
  refine ydf (back:=back) cs ?_
  unfold hear1
  split
  . exact Snd.yke h c
  split
  . exact h
  split
  . exact h
  . exact h
theorem ykg {l:Line} (h:Snd.SL l.sender) (p:Packet):Snd.SL (come l p).sender:=by
 have h2:Snd.SL (zit l p).1.sender:=ydf (back:=p.back) _ (x:=(l,false)) h
 unfold come
 split
 . exact h
 split
 . unfold told;split <;> exact h2
 . exact h2
theorem zpi {N:Nat} {l:Line} (hS:Snd.SI N l.sender) (h:Snd.SL l.sender):Snd.SL (emit l).sender:=Snd.ypc hS h
theorem ynq {N M:Nat} {l:Line} (h:LI N M l) (hl:Snd.SL l.sender) (x:Step) (hN:N+1 <= 2 ^ 20) (hM:M+120 <= 2 ^ 20):Snd.SL (doS l x).1.sender:=by
 unfold doS
 split
 . split
   . rename_i e
     exact zpi (l:={ l with sender:=Snd.sendS l.sender x.message }) (Snd.zto h.snd e hN) (hl.side rfl)
   . exact hl
 split
 . split
   . exact hl
   split
   . exact hl
   rename_i p hp
   have hb:=h.bytes p (List.mem_of_getElem? hp)
   split
   . exact zpi (l:={ l with way:=putW l.way [p] }) h.snd hl
   . split
     . exact zpi (zzt (l:={ l with way:=l.way.eraseIdx x.n.toNat }) ⟨h.snd,h.rcv,h.small,by show (l.way.eraseIdx _).length <= 40;have:=h.way;rw [List.length_eraseIdx];split <;> omega,fun q hq=>h.bytes q (List.mem_of_mem_eraseIdx hq)⟩ hb hM).snd (ykg (l:={ l with way:=l.way.eraseIdx x.n.toNat }) hl p)
     . exact zpi (l:={ l with way:=l.way.eraseIdx x.n.toNat }) h.snd hl
 split
 . exact zpi (l:={ l with sender:=Snd.tick l.sender }) (Snd.zoz h.snd) (Snd.zzz hl)
 . exact hl
theorem zxt {N M:Nat} (l:Line) (p:Packet) (h:LI N M l) (hM:M+120 <= 2 ^ 20) (hp:p.bytes.length <= 120) {rows:List (List PV)} (hr:rows=l.way.map Packet.row) :
 FunOK Tryz.prog 108 [.agg (lnC l.sender l.receiver (.p (.sl 3 rows))),p.hv] zac (come l p).hv zac:=by
 subst hr;exact yfh l p h hM hp
theorem ymt {N M:Nat} (l:Line) (x:Step) (h:LI N M l) (hsl:Snd.SL l.sender) (hN:N+1 <= 2 ^ 20) (hM:M+120 <= 2 ^ 20) (hx:x.message.data.length < 2 ^ 38) :
 FunOK Tryz.prog 44 [l.hv,x.hv] zac (.tup [(doS l x).1.hv,(doS l x).2.hv]) zac:=by
 have hway:=h.way
 have hby:=h.bytes
 generalize hT:doS l x=T
 rw [doS] at hT
 refine zah mixed Tryz.func44 (by decide) ?_
 conv=>whnf
 (try (refine hcut.go ?_;conv=>whnf))
 by_cases c1:x.kind=1
 case pos =>
  rw [if_pos c1] at hT
  refine zad (beq_iff_eq.2 c1) ?_;conv=>whnf
  have ps:=Snd.zrm l.sender x.message h.snd.fit hx
  by_cases e1:Snd.zdo l.sender x.message=0
  case pos =>
   rw [if_pos e1] at hT
   rw [Snd.zkh e1] at ps
   dsimp only at ps
   (refine cP ?_;refine dL ps ?_)
   (try (refine hcut.go ?_;conv=>whnf))
   have hy:=(show LI (N+1) M { l with sender:=Snd.sendS l.sender x.message } from ⟨Snd.zto h.snd e1 hN,h.rcv,h.small,h.way,h.bytes⟩)
   have hyl:=(show Snd.SL (Snd.sendS l.sender x.message) from hsl.side rfl)
   have hyw:=hy.way
   have pp:=Snd.zfn (({ l with sender:=Snd.sendS l.sender x.message }:Line)).sender hy.snd hyl
   have pu:=zft (({ l with sender:=Snd.sendS l.sender x.message }:Line)).way (Snd.pump (({ l with sender:=Snd.sendS l.sender x.message }:Line)).sender).2 hyw (Snd.ziu hy.snd) (rows:=(l.way.map Packet.row)) (rfl)
   unfold emit at hT
   generalize Snd.pump (({ l with sender:=Snd.sendS l.sender x.message }:Line)).sender=PP at hT pp pu
   obtain ⟨PS,PK⟩:=PP
   dsimp only at hT pp pu
   subst hT
   (try (refine hcut.go ?_;conv=>whnf))
   (refine cP ?_;refine dL pp ?_)
   (refine cP ?_;refine dL pu ?_)
   refine sD ?_
   try rfl
  case neg =>
   rw [if_neg e1] at hT
   subst hT
   rw [Snd.zge rfl e1] at ps
   dsimp only at ps
   (refine cP ?_;refine dL ps ?_)
   refine zad (bne_iff_ne.2 e1) ?_;conv=>whnf
   try rfl
 rw [if_neg c1] at hT
 refine zab (beq_eq_false_iff_ne.2 c1) ?_;conv=>whnf
 (try (refine hcut.go ?_;conv=>whnf))
 by_cases c2:x.kind=2 \/ x.kind=3 \/ x.kind=4
 case neg =>
  rw [if_neg c2] at hT
  have c2:=not_or.1 c2
  have c3:=not_or.1 c2.2
  refine zab (beq_eq_false_iff_ne.2 c2.1) ?_;conv=>whnf
  (try (refine hcut.go ?_;conv=>whnf))
  refine zab (beq_eq_false_iff_ne.2 c3.1) ?_;conv=>whnf
  (try (refine hcut.go ?_;conv=>whnf))
  refine zab (beq_eq_false_iff_ne.2 c3.2) ?_;conv=>whnf
  (try (refine hcut.go ?_;conv=>whnf))
  by_cases c5:x.kind=5
  case pos =>
   rw [if_pos c5] at hT
   refine zad (beq_iff_eq.2 c5) ?_;conv=>whnf
   (refine cP ?_;refine dL (Snd.zqx l.sender h.snd) ?_)
   have hy:=(show LI N M { l with sender:=Snd.tick l.sender } from ⟨Snd.zoz h.snd,h.rcv,h.small,h.way,h.bytes⟩)
   have hyl:=(Snd.zzz hsl)
   have hyw:=hy.way
   have pp:=Snd.zfn (({ l with sender:=Snd.tick l.sender }:Line)).sender hy.snd hyl
   have pu:=zft (({ l with sender:=Snd.tick l.sender }:Line)).way (Snd.pump (({ l with sender:=Snd.tick l.sender }:Line)).sender).2 hyw (Snd.ziu hy.snd) (rows:=(l.way.map Packet.row)) (rfl)
   unfold emit at hT
   generalize Snd.pump (({ l with sender:=Snd.tick l.sender }:Line)).sender=PP at hT pp pu
   obtain ⟨PS,PK⟩:=PP
   dsimp only at hT pp pu
   subst hT
   (try (refine hcut.go ?_;conv=>whnf))
   (refine cP ?_;refine dL pp ?_)
   (refine cP ?_;refine dL pu ?_)
   refine sD ?_
   try rfl
  case neg =>
   rw [if_neg c5] at hT
   subst hT
   refine zab (beq_eq_false_iff_ne.2 c5) ?_;conv=>whnf
   try rfl
 rw [if_pos c2] at hT
 have c6:x.kind=2 \/ x.kind ≠ 2 /\ (x.kind=3 \/ x.kind ≠ 3 /\ x.kind=4):=by omega
 rcases c6 with c6 | ⟨c8,c6 | ⟨c7,c6⟩⟩
 . refine zad (beq_iff_eq.2 c6) ?_;conv=>whnf
   (try (refine hcut.go ?_;conv=>whnf))
   try (refine zad (beq_iff_eq.2 c6) ?_;conv=>whnf)
   by_cases n0:x.n < 0
   case pos =>
    rw [if_pos n0] at hT
    subst hT
    refine zad (decide_eq_true n0) ?_;conv=>whnf
    try rfl
   rw [if_neg n0] at hT
   refine zab (decide_eq_false n0) ?_;conv=>whnf
   cases hp:l.way[x.n.toNat]? with
   | none =>
    rw [hp] at hT
    dsimp only at hT
    subst hT
    have hge:=List.getElem?_eq_none_iff.1 hp
    refine zad (decide_eq_true (by rw [List.length_map];omega)) ?_;conv=>whnf
    try rfl
   | some p =>
   rw [hp] at hT
   dsimp only at hT
   have hlt:=(List.getElem?_eq_some_iff.1 hp).1
   have hpb:=hby p (List.mem_of_getElem? hp)
   have her:l.way.eraseIdx x.n.toNat=l.way.take x.n.toNat++l.way.drop (x.n.toNat+1):=List.eraseIdx_eq_take_drop_succ _ _
   refine zab (decide_eq_false (by rw [List.length_map];omega)) ?_;conv=>whnf
   (try (refine hcut.go ?_;conv=>whnf))
   refine Snd.zai hp (by omega) ?_;conv=>whnf
   (try (refine hcut.go ?_;conv=>whnf))
   rw [if_neg (by omega),if_pos c6] at hT
   refine zab (beq_eq_false_iff_ne.2 (by omega)) ?_;conv=>whnf
   refine zaa (by rw [List.length_map];omega) ?_;conv=>whnf
   refine zee (l:=l.way) (by show 0+(x.n - 0).toNat <= l.way.length;omega) ?_
   conv=>whnf
   refine zaa (c:=(([]:List (List PV)).length+(((l.way.drop 0).take (x.n - 0).toNat).map Packet.row).length) * 40 <= 140737488355328) (by rw [List.length_map,List.length_take,List.length_nil];omega) ?_;conv=>whnf
   refine zan (z:=x.n+1) (W_fit (by omega) (by omega)) ?_;conv=>whnf
   refine zaa (by rw [List.length_map];omega) ?_;conv=>whnf
   refine zez (l:=l.way) (by show (x.n+1).toNat+(((List.map Packet.row l.way).length:Int) - (x.n+1)).toNat=l.way.length;rw [List.length_map];omega) ?_
   conv=>whnf
   refine zaa (c:=((([]:List (List PV))++((l.way.drop 0).take (x.n - 0).toNat).map Packet.row).length+((l.way.drop (x.n+1).toNat).map Packet.row).length) * 40 <= 140737488355328) (by rw [List.nil_append,List.length_map,List.length_map,List.length_take,List.length_drop,List.length_drop];omega) ?_;conv=>whnf
   refine sD ?_
   have hrow:(([]:List (List PV))++((l.way.drop 0).take (x.n - 0).toNat).map Packet.row)++(l.way.drop (x.n+1).toNat).map Packet.row=(l.way.eraseIdx x.n.toNat).map Packet.row:=by
    rw [her,List.map_append,List.nil_append,List.drop_zero,show (x.n - 0).toNat=x.n.toNat by omega,show (x.n+1).toNat=x.n.toNat+1 by omega]
   have hli:LI N M { l with way:=l.way.eraseIdx x.n.toNat }:=⟨h.snd,h.rcv,h.small,by show (l.way.eraseIdx _).length <= 40;rw [List.length_eraseIdx];split <;> omega,fun q hq=>hby q (List.mem_of_mem_eraseIdx hq)⟩
   refine zad (beq_iff_eq.2 c6) ?_;conv=>whnf
   have hcl:=zzt hli hpb hM
   have hcs:=ykg (l:={ l with way:=l.way.eraseIdx x.n.toNat }) hsl p
   have pc:=zxt { l with way:=l.way.eraseIdx x.n.toNat } p hli hM hpb hrow
   generalize come { l with way:=l.way.eraseIdx x.n.toNat } p=Y at hT hcl hcs pc
   (refine cP ?_;refine dL pc ?_)
   have hy:=hcl
   have hyl:=hcs
   have hyw:=hy.way
   have pp:=Snd.zfn (Y).sender hy.snd hyl
   have pu:=zft (Y).way (Snd.pump (Y).sender).2 hyw (Snd.ziu hy.snd) (rows:=(Y.way.map Packet.row)) (rfl)
   unfold emit at hT
   generalize Snd.pump (Y).sender=PP at hT pp pu
   obtain ⟨PS,PK⟩:=PP
   dsimp only at hT pp pu
   subst hT
   (try (refine hcut.go ?_;conv=>whnf))
   (refine cP ?_;refine dL pp ?_)
   (refine cP ?_;refine dL pu ?_)
   refine sD ?_
   try rfl
 . refine zab (beq_eq_false_iff_ne.2 c8) ?_;conv=>whnf
   (try (refine hcut.go ?_;conv=>whnf))
   refine zad (beq_iff_eq.2 c6) ?_;conv=>whnf
   (try (refine hcut.go ?_;conv=>whnf))
   try (refine zad (beq_iff_eq.2 c6) ?_;conv=>whnf)
   by_cases n0:x.n < 0
   case pos =>
    rw [if_pos n0] at hT
    subst hT
    refine zad (decide_eq_true n0) ?_;conv=>whnf
    try rfl
   rw [if_neg n0] at hT
   refine zab (decide_eq_false n0) ?_;conv=>whnf
   cases hp:l.way[x.n.toNat]? with
   | none =>
    rw [hp] at hT
    dsimp only at hT
    subst hT
    have hge:=List.getElem?_eq_none_iff.1 hp
    refine zad (decide_eq_true (by rw [List.length_map];omega)) ?_;conv=>whnf
    try rfl
   | some p =>
   rw [hp] at hT
   dsimp only at hT
   have hlt:=(List.getElem?_eq_some_iff.1 hp).1
   have hpb:=hby p (List.mem_of_getElem? hp)
   have her:l.way.eraseIdx x.n.toNat=l.way.take x.n.toNat++l.way.drop (x.n.toNat+1):=List.eraseIdx_eq_take_drop_succ _ _
   refine zab (decide_eq_false (by rw [List.length_map];omega)) ?_;conv=>whnf
   (try (refine hcut.go ?_;conv=>whnf))
   refine Snd.zai hp (by omega) ?_;conv=>whnf
   (try (refine hcut.go ?_;conv=>whnf))
   rw [if_neg (by omega),if_neg c8] at hT
   refine zab (beq_eq_false_iff_ne.2 (by omega)) ?_;conv=>whnf
   refine zaa (by rw [List.length_map];omega) ?_;conv=>whnf
   refine zee (l:=l.way) (by show 0+(x.n - 0).toNat <= l.way.length;omega) ?_
   conv=>whnf
   refine zaa (c:=(([]:List (List PV)).length+(((l.way.drop 0).take (x.n - 0).toNat).map Packet.row).length) * 40 <= 140737488355328) (by rw [List.length_map,List.length_take,List.length_nil];omega) ?_;conv=>whnf
   refine zan (z:=x.n+1) (W_fit (by omega) (by omega)) ?_;conv=>whnf
   refine zaa (by rw [List.length_map];omega) ?_;conv=>whnf
   refine zez (l:=l.way) (by show (x.n+1).toNat+(((List.map Packet.row l.way).length:Int) - (x.n+1)).toNat=l.way.length;rw [List.length_map];omega) ?_
   conv=>whnf
   refine zaa (c:=((([]:List (List PV))++((l.way.drop 0).take (x.n - 0).toNat).map Packet.row).length+((l.way.drop (x.n+1).toNat).map Packet.row).length) * 40 <= 140737488355328) (by rw [List.nil_append,List.length_map,List.length_map,List.length_take,List.length_drop,List.length_drop];omega) ?_;conv=>whnf
   refine sD ?_
   have hrow:(([]:List (List PV))++((l.way.drop 0).take (x.n - 0).toNat).map Packet.row)++(l.way.drop (x.n+1).toNat).map Packet.row=(l.way.eraseIdx x.n.toNat).map Packet.row:=by
    rw [her,List.map_append,List.nil_append,List.drop_zero,show (x.n - 0).toNat=x.n.toNat by omega,show (x.n+1).toNat=x.n.toNat+1 by omega]
   have hli:LI N M { l with way:=l.way.eraseIdx x.n.toNat }:=⟨h.snd,h.rcv,h.small,by show (l.way.eraseIdx _).length <= 40;rw [List.length_eraseIdx];split <;> omega,fun q hq=>hby q (List.mem_of_mem_eraseIdx hq)⟩
   refine zab (beq_eq_false_iff_ne.2 c8) ?_;conv=>whnf
   have hy:=hli
   have hyl:=hsl
   have hyw:=hy.way
   have pp:=Snd.zfn (({ l with way:=l.way.eraseIdx x.n.toNat }:Line)).sender hy.snd hyl
   have pu:=zft (({ l with way:=l.way.eraseIdx x.n.toNat }:Line)).way (Snd.pump (({ l with way:=l.way.eraseIdx x.n.toNat }:Line)).sender).2 hyw (Snd.ziu hy.snd) (rows:=_) (hrow)
   unfold emit at hT
   generalize Snd.pump (({ l with way:=l.way.eraseIdx x.n.toNat }:Line)).sender=PP at hT pp pu
   obtain ⟨PS,PK⟩:=PP
   dsimp only at hT pp pu
   subst hT
   (try (refine hcut.go ?_;conv=>whnf))
   (refine cP ?_;refine dL pp ?_)
   (refine cP ?_;refine dL pu ?_)
   refine sD ?_
   try rfl
 . refine zab (beq_eq_false_iff_ne.2 c8) ?_;conv=>whnf
   (try (refine hcut.go ?_;conv=>whnf))
   refine zab (beq_eq_false_iff_ne.2 c7) ?_;conv=>whnf
   (try (refine hcut.go ?_;conv=>whnf))
   refine zad (beq_iff_eq.2 c6) ?_;conv=>whnf
   (try (refine hcut.go ?_;conv=>whnf))
   try (refine zad (beq_iff_eq.2 c6) ?_;conv=>whnf)
   by_cases n0:x.n < 0
   case pos =>
    rw [if_pos n0] at hT
    subst hT
    refine zad (decide_eq_true n0) ?_;conv=>whnf
    try rfl
   rw [if_neg n0] at hT
   refine zab (decide_eq_false n0) ?_;conv=>whnf
   cases hp:l.way[x.n.toNat]? with
   | none =>
    rw [hp] at hT
    dsimp only at hT
    subst hT
    have hge:=List.getElem?_eq_none_iff.1 hp
    refine zad (decide_eq_true (by rw [List.length_map];omega)) ?_;conv=>whnf
    try rfl
   | some p =>
   rw [hp] at hT
   dsimp only at hT
   have hlt:=(List.getElem?_eq_some_iff.1 hp).1
   have hpb:=hby p (List.mem_of_getElem? hp)
   have her:l.way.eraseIdx x.n.toNat=l.way.take x.n.toNat++l.way.drop (x.n.toNat+1):=List.eraseIdx_eq_take_drop_succ _ _
   refine zab (decide_eq_false (by rw [List.length_map];omega)) ?_;conv=>whnf
   (try (refine hcut.go ?_;conv=>whnf))
   refine Snd.zai hp (by omega) ?_;conv=>whnf
   (try (refine hcut.go ?_;conv=>whnf))
   rw [if_pos c6] at hT
   refine zad (beq_iff_eq.2 c6) ?_;conv=>whnf
   (refine cP ?_;refine dL (zpg l.way [p] hway (by simp)) ?_)
   have hput:LI N M { l with way:=putW l.way [p] }:=ycx h fun q hq=>by rw [List.mem_singleton] at hq;subst hq;exact hpb
   have hy:=hput
   have hyl:=hsl
   have hyw:=hy.way
   have pp:=Snd.zfn (({ l with way:=putW l.way [p] }:Line)).sender hy.snd hyl
   have pu:=zft (({ l with way:=putW l.way [p] }:Line)).way (Snd.pump (({ l with way:=putW l.way [p] }:Line)).sender).2 hyw (Snd.ziu hy.snd) (rows:=((putW l.way [p]).map Packet.row)) (rfl)
   unfold emit at hT
   generalize Snd.pump (({ l with way:=putW l.way [p] }:Line)).sender=PP at hT pp pu
   obtain ⟨PS,PK⟩:=PP
   dsimp only at hT pp pu
   subst hT
   (try (refine hcut.go ?_;conv=>whnf))
   (refine cP ?_;refine dL pp ?_)
   (refine cP ?_;refine dL pu ?_)
   refine sD ?_
   try rfl
end Ln
end Go.HL
namespace Go.HL
open Go.Proofs
namespace Ln
open Ser
set_option maxHeartbeats 8000000
set_option maxRecDepth 100000
set_option linter.unusedSimpArgs false
abbrev rowAn (l:List Answer):HSlot:=.live (.row 81 2 (l.map Answer.row))
abbrev stps (l:List Step):HV:=.p (.sl 7 (l.map Step.row))
abbrev lnL (l:Line):HSlot:=.live (.cells 40 l.cells)
abbrev zeroL:List HV:=[i64 0,i64 0,i64 0,i64 0,i64 0,i64 0,i64 0,i64 0,hnil,i64 0,i64 0,hnil,hnil,hnil,i64 0,i64 0,i64 0,hnil,hnil,hbool false,i64 0,i64 0,i64 0,i64 0,i64 0,i64 0,i64 0,i64 0,i64 0,hnil,hnil,hnil,hnil,hnil]
theorem ykh (l:Line) (A:List Step) (x:Step):play l (A++[x])=((doS (play l A).1 x).1,(play l A).2++[(doS (play l A).1 x).2]):=by
 rw [yct];rfl
end Ln
end Go.HL
namespace Go.HL
open Go.Proofs
namespace Ln
open Ser
set_option maxHeartbeats 8000000
set_option maxRecDepth 100000
set_option linter.unusedSimpArgs false
theorem yfm (c:Config):FunOK Tryz.prog 43 [c.hv] zac (.tup [(newLP c).1.hv,i64 (newLP c).2]) zac:=by
 refine zah mixed Tryz.func43 (by decide) ?_
 conv=>whnf
 have pn:=Snd.zrn c
 by_cases c1:Snd.wrgS c=0
 case neg =>
  rw [show newLP c=(noL,Snd.wrgS c) from if_neg c1]
  rw [show Snd.newP c=(Snd.noS,Snd.wrgS c) from if_neg c1] at pn
  (refine cP ?_;refine dL pn ?_)
  refine zad (bne_iff_ne.2 c1) ?_;conv=>whnf
  try rfl
 have hw:=Snd.zck c1
 rw [show newLP c=(newL c,0) from if_pos c1]
 rw [show Snd.newP c=(Snd.newS c,0) from if_pos c1] at pn
 (refine cP ?_;refine dL pn ?_)
 (try (refine hcut.go ?_;conv=>whnf))
 (refine cP ?_;refine dL (Rcv.yfg c (by omega) (by omega) (by omega)) ?_)
 ((refine zas ?_ ?_;(· kernel_rfl);conv=>whnf);try (refine hcut.go ?_;conv=>whnf))
 try rfl
theorem yki:∀ (a:List Step) {N M:Nat} {l:Line},LI N M l -> Snd.SL l.sender -> N+a.length <= 2 ^ 20 -> M+120 * a.length <= 2 ^ 20 -> Snd.SL (play l a).1.sender
 | [],_,_,_,_,h,_,_=>h
 | x :: a,N,M,l,hl,h,h1,h2=>by
  simp only [List.length_cons] at h1 h2
  exact yki a (yjp hl x (by omega) (by omega)) (ynq hl h x (by omega) (by omega)) (by omega) (by omega)
theorem yaa (c:Config) (l:List Step) (c1:Snd.wrgS c=0) (hb:∀ x ∈ l,x.message.data.length < 2 ^ 38) :
 FunOK Tryz.prog 30 [c.hv,stps l] zac (.tup [(play (newL c) (l.take 200)).1.hv,.p (.sl 2 ((play (newL c) (l.take 200)).2.map Answer.row))]) zac:=by
 refine zah mixed Tryz.func30 (by decide) ?_
 generalize hT:play (newL c) (l.take 200)=T
 conv=>whnf
 have pn:=yfm c
 rw [show newLP c=(newL c,0) from if_pos c1] at pn
 (refine cP ?_;refine dL pn ?_)
 (try (refine hcut.go ?_;conv=>whnf))
 refine ⟨{ x:(Line × List Answer) × List Step × List Step // l=x.2.1++x.2.2 /\ x.2.1.length <= 200 /\ play (newL c) x.2.1=x.1 /\ LI x.2.1.length (120 * x.2.1.length) x.1.1 /\ Snd.SL x.1.1.sender },fun | ⟨((y,az),A,B),_⟩=>hs 44 [(4,.ptr 4 0),(6,.ptr 6 0),(8,.own 900),(21,stps l),(22,i64 l.length),(23,i64 A.length)] [(4,.live (.cells 40 zeroL)),(6,lnL y),(900,rowAn az)],fun x=>x.1.2.2.length,⟨((newL c,[]),[],l),rfl,by simp,rfl,zzu c1,Snd.ykf c1⟩,?_,?_⟩
 . exact (hle_Q [(4,some 4),(6,some 6),(900,none)])
 rintro ⟨⟨⟨y,az⟩,A,B⟩,k1,k0,k2,k3,k4⟩
 dsimp only at k1 k0 k2 k3 k4
 refine zbk fun Q hQ=>?_
 conv=>whnf
 have hal:az.length=A.length:=by have:=ycu A (newL c);rw [k2] at this;exact this
 cases B with
 | cons x B =>
  have hz:=zar k1
  have hxd:=hb x (zfb k1)
  have hnx:=ykh (newL c) A x
  rw [k2] at hnx
  dsimp only at hnx
  refine sT ?_
  refine zaj k1 rfl ?_;conv=>whnf
  (try (refine hcut.go ?_;conv=>whnf))
  by_cases c2:A.length=200
  case pos =>
   have ht:l.take 200=A:=by rw [k1,<- c2,List.take_left]
   rw [ht,k2] at hT
   subst hT
   refine zad (beq_iff_eq.2 (by omega)) ?_;conv=>whnf
   refine hQ _ _ ?_;conv=>whnf
   try rfl
  have hli:=yjp k3 x (by omega) (by omega)
  have hsl:=ynq k3 k4 x (by omega) (by omega)
  have pd:=ymt y x k3 k4 (by omega) (by omega) hxd
  generalize doS y x=D at hnx hli hsl pd
  obtain ⟨z,a⟩:=D
  dsimp only at hnx hli hsl pd
  refine zab (beq_eq_false_iff_ne.2 (by omega)) ?_;conv=>whnf
  (try (refine hcut.go ?_;conv=>whnf))
  (refine cP ?_;refine dL pd ?_)
  refine zaa (c:=((az.map Answer.row).length+1) * 16 <= 140737488355328) (by rw [List.length_map];omega) ?_;conv=>whnf
  refine sF ?_
  refine hQ _ _ ?_;conv=>whnf
  exact ⟨⟨((z,az++[a]),A++[x],B),zae k1,by simp;omega,hnx,by rw [List.length_append,List.length_singleton,show 120 * (A.length+1)=120 * A.length+120 by omega];exact hli,hsl⟩,(hle_X [(4,some 4),(6,some 6),(900,some 40)] (by repeat' (first | exact z0 | refine z1 ?_ | refine ⟨?_,?_⟩ | ((exact zat (f:=Answer.row) rfl rfl)) | exact z2))),by simp⟩
 | nil =>
  have hz:=zaz k1
  rw [List.append_nil] at k1
  have ht:l.take 200=A:=by rw [k1,List.take_of_length_le k0]
  rw [ht,k2] at hT
  subst hT
  refine sN ?_
  refine hQ _ _ ?_;conv=>whnf
  try rfl
end Ln
end Go.HL
namespace Go.HL
open Go.Proofs
namespace Snd
open Ser
set_option maxHeartbeats 8000000
set_option maxRecDepth 100000
set_option linter.unusedSimpArgs false
theorem zml (m:Message):FunOK Tryz.prog 60 [m.hv,m.hv] zac (hbool true) zac:=by
 refine zah mixed Tryz.func60 (by decide) ?_
 conv=>whnf
 repeat' (first | (refine zad ?_ ?_;(· simp;done);conv=>whnf) | (refine zgb rfl ?_;conv=>whnf))
 rw [beq_self_eq_true]
theorem zmm (l:List Packet) (hb:l.length < 2 ^ 62):FunOK Tryz.prog 41 [.p (.sl 3 (l.map Packet.row)),.p (.sl 3 (l.map Packet.row))] zac (hbool true) zac:=by
 refine zah mixed Tryz.func41 (by decide) ?_
 conv=>whnf
 refine zab (by simp) ?_;conv=>whnf
 (try (refine hcut.go ?_;conv=>whnf))
 refine ⟨{ x:List Packet × List Packet // l=x.1++x.2 },fun | ⟨(a,b),_⟩=>hs 56 [(0,.p (.sl 3 (l.map Packet.row))),(1,.p (.sl 3 (l.map Packet.row))),(12,i64 l.length),(13,i64 a.length)] [],fun x=>x.1.2.length,⟨([],l),rfl⟩,?_,?_⟩
 . exact (hle_Q [])
 rintro ⟨⟨a,b⟩,h⟩
 dsimp only at h
 conv=>whnf
 cases b with
 | cons p b =>
  have hz:=zar h
  refine sT ?_
  refine zaj h rfl ?_;conv=>whnf
  refine zaj h rfl ?_;conv=>whnf
  refine zab (by simp) ?_;conv=>whnf
  refine zaj h rfl ?_;conv=>whnf
  refine zaj h rfl ?_;conv=>whnf
  refine zab (by simp) ?_;conv=>whnf
  refine zaj h rfl ?_;conv=>whnf
  refine zgb rfl ?_;conv=>whnf
  refine zaj h rfl ?_;conv=>whnf
  refine zgb rfl ?_;conv=>whnf
  refine sD ?_
  refine zab (by simp) ?_;conv=>whnf
  (try (refine hcut.go ?_;conv=>whnf))
  refine sF ?_
  exact ⟨⟨(a++[p],b),zae h⟩,(hle_Q []),by simp⟩
 | nil =>
  have hz:=zaz h
  ((refine hif_F ?_;conv=>whnf);try (refine hcut.go ?_;conv=>whnf))
theorem zhz (s:Sender) (hs:Fit s) (hx:∀ x ∈ s.out,x.chunk.spans.length < 2 ^ 38 /\ x.chunk.skips.length < 2 ^ 38):FunOK Tryz.prog 28 [s.hv,s.hv] zac (hbool true) zac:=by
 obtain ⟨h1,h2,h3,h4,h5,h6,h7⟩:=hs
 have hol:=h3.len
 refine zah mixed Tryz.func28 (by decide) ?_
 conv=>whnf
 repeat' (first | (refine zaa ?_ ?_;(· kernel_rfl);conv=>whnf) | (refine zab ?_ ?_;(· simp;done);conv=>whnf) | (refine zav ?_;(conv=>whnf);refine ⟨_,Sch.zpm s.sched (by omega),rfl,?_⟩;conv=>whnf) | (refine zav ?_;(conv=>whnf);refine ⟨_,Sco.ztq s.out (by omega) hx,rfl,?_⟩;conv=>whnf))
 (try (refine hcut.go ?_;conv=>whnf))
 repeat' (refine zab ?_ ?_;(· simp;done);conv=>whnf)
 (try (refine hcut.go ?_;conv=>whnf))
 refine ⟨{ x:List Queued × List Queued // s.queue=x.1++x.2 },fun | ⟨(a,b),_⟩=>hs 220 [(2,.ptr 2 0),(3,.ptr 3 0),(110,i64 s.queue.length),(111,i64 a.length)] [(2,scS s),(3,scS s)],fun x=>x.1.2.length,⟨([],s.queue),rfl⟩,?_,?_⟩
 . exact (hle_Q [(2,some 2),(3,some 3)])
 rintro ⟨⟨a,b⟩,h⟩
 dsimp only at h
 refine zbk fun Q hQ=>?_
 conv=>whnf
 cases b with
 | cons p b =>
  have hz:=zar h
  refine sT ?_
  refine zaj h rfl ?_;conv=>whnf
  refine zaj h rfl ?_;conv=>whnf
  refine sD ?_
  repeat' (refine zab ?_ ?_;(· simp;done);conv=>whnf)
  (refine cL ?_;refine dL (zml p.message) ?_)
  (try (refine hcut.go ?_;conv=>whnf))
  refine sF ?_
  refine hQ _ _ ?_;conv=>whnf
  exact ⟨⟨(a++[p],b),zae h⟩,(hle_Q [(2,some 2),(3,some 3)]),by simp⟩
 | nil =>
 have hz:=zaz h
 refine sN ?_
 refine hQ _ _ ?_;conv=>whnf
 refine ⟨{ x:List Path × List Path // s.paths=x.1++x.2 },fun | ⟨(a,b),_⟩=>hs 220 [(2,.ptr 2 0),(3,.ptr 3 0),(168,i64 s.paths.length),(169,i64 a.length)] [(2,scS s),(3,scS s)],fun x=>x.1.2.length,⟨([],s.paths),rfl⟩,?_,?_⟩
 . exact (hle_Q [(2,some 2),(3,some 3)])
 rintro ⟨⟨a,b⟩,h⟩
 dsimp only at h
 refine zbk fun Q hQ=>?_
 conv=>whnf
 cases b with
 | cons p b =>
  have hz:=zar h
  refine sT ?_
  refine zaj h rfl ?_;conv=>whnf
  refine zaj h rfl ?_;conv=>whnf
  try (refine zaa ?_ ?_;(· kernel_rfl);conv=>whnf)
  refine sD ?_
  refine zab (by simp) ?_;conv=>whnf
  (try (refine hcut.go ?_;conv=>whnf))
  refine sF ?_
  refine hQ _ _ ?_;conv=>whnf
  exact ⟨⟨(a++[p],b),zae h⟩,(hle_Q [(2,some 2),(3,some 3)]),by simp⟩
 | nil =>
 have hz:=zaz h
 refine sN ?_
 refine hQ _ _ ?_;conv=>whnf
 refine ⟨{ x:List Int × List Int // s.mids=x.1++x.2 },fun | ⟨(a,b),_⟩=>hs 220 [(2,.ptr 2 0),(3,.ptr 3 0),(186,i64 s.mids.length),(187,i64 a.length)] [(2,scS s),(3,scS s)],fun x=>x.1.2.length,⟨([],s.mids),rfl⟩,?_,?_⟩
 . exact (hle_Q [(2,some 2),(3,some 3)])
 rintro ⟨⟨a,b⟩,h⟩
 dsimp only at h
 refine zbk fun Q hQ=>?_
 conv=>whnf
 cases b with
 | cons p b =>
  have hz:=zar h
  refine sT ?_
  refine zaj (f:=fun n:Int=>[pi n]) h rfl ?_;conv=>whnf
  refine zaj (f:=fun n:Int=>[pi n]) h rfl ?_;conv=>whnf
  refine sD ?_
  refine zab (by simp) ?_;conv=>whnf
  (try (refine hcut.go ?_;conv=>whnf))
  refine sF ?_
  refine hQ _ _ ?_;conv=>whnf
  exact ⟨⟨(a++[p],b),zae h⟩,(hle_Q [(2,some 2),(3,some 3)]),by simp⟩
 | nil =>
 have hz:=zaz h
 refine sN ?_
 refine hQ _ _ ?_;conv=>whnf
 refine ⟨{ x:List Int × List Int // s.fates=x.1++x.2 },fun | ⟨(a,b),_⟩=>hs 220 [(2,.ptr 2 0),(3,.ptr 3 0),(204,i64 s.fates.length),(205,i64 a.length)] [(2,scS s),(3,scS s)],fun x=>x.1.2.length,⟨([],s.fates),rfl⟩,?_,?_⟩
 . exact (hle_Q [(2,some 2),(3,some 3)])
 rintro ⟨⟨a,b⟩,h⟩
 dsimp only at h
 refine zbk fun Q hQ=>?_
 conv=>whnf
 cases b with
 | cons p b =>
  have hz:=zar h
  refine sT ?_
  refine zaj (f:=fun n:Int=>[pi n]) h rfl ?_;conv=>whnf
  refine zaj (f:=fun n:Int=>[pi n]) h rfl ?_;conv=>whnf
  refine sD ?_
  refine zab (by simp) ?_;conv=>whnf
  (try (refine hcut.go ?_;conv=>whnf))
  refine sF ?_
  refine hQ _ _ ?_;conv=>whnf
  exact ⟨⟨(a++[p],b),zae h⟩,(hle_Q [(2,some 2),(3,some 3)]),by simp⟩
 | nil =>
 have hz:=zaz h
 refine sN ?_
 refine hQ _ _ ?_;conv=>whnf
end Snd
namespace Ln
open Ser
set_option maxHeartbeats 8000000
set_option maxRecDepth 100000
set_option linter.unusedSimpArgs false
theorem ykj {N:Nat} {s:Sender} (h:Snd.SI N s):∀ x ∈ s.out,x.chunk.spans.length < 2 ^ 38 /\ x.chunk.skips.length < 2 ^ 38:=fun x hx=>by
 rw [(h.out x hx).spans,(h.out x hx).skips];decide
end Ln
end Go.HL
namespace Go.HL
open Go.Proofs
namespace Snd
open Ser
set_option maxHeartbeats 8000000
set_option maxRecDepth 100000
set_option linter.unusedSimpArgs false
end Snd
end Go.HL
namespace Go.HL
open Go.Proofs
namespace Ln
open Ser Snd
set_option maxHeartbeats 8000000
set_option maxRecDepth 100000
set_option linter.unusedSimpArgs false
theorem ydg:FunOK Tryz.prog 28 [noS.hv,noS.hv] zac (hbool true) zac :=
 zhz noS ⟨by decide,by decide,⟨by decide,by decide⟩,by decide,by decide,by decide,by simp [noS]⟩ (by simp [noS])
theorem zlr {N:Nat} {s:Sender} (h:SI N s):FunOK Tryz.prog 28 [s.hv,s.hv] zac (hbool true) zac:=zhz s h.fit (ykj h)
theorem ymu (s:Sender):calm s=((s.queue.length:Int)+s.out.length == 0):=by
 unfold calm
 by_cases h:s.queue.length=0 /\ s.out.length=0
 . rw [h.1,h.2];rfl
 . rw [show ((s.queue.length:Int)+s.out.length == 0)=false from beq_eq_false_iff_ne.2 (by omega)]
   simp only [Bool.and_eq_false_iff,decide_eq_false_iff_not]
   omega
def Pm (N:Nat) (s:Sender):Prop:=s.paths=[] \/ (SI N s /\ SL s)
structure Stl (c:Config) (l:List Step) (m:Message) (k:Chunk) (n0 s:Sender) (r:Receiver) (w:List Packet) (az:List Answer) (s2:Sender) (id e:Int) (u v:Sender):Prop where
 pn:FunOK Tryz.prog 26 [c.hv] zac (.tup [n0.hv,i64 0]) zac
 pr:FunOK Tryz.prog 27 [c.hv] zac (.tup [n0.hv,i64 0]) zac
 pw:FunOK Tryz.prog 29 [c.hv] zac (i64 0) zac
 p0:FunOK Tryz.prog 28 [n0.hv,n0.hv] zac (hbool true) zac
 pb:FunOK Tryz.prog 30 [c.hv,stps l] zac (.tup [.agg (lnC s r (.p (.sl 3 (w.map Packet.row)))),.p (.sl 2 (az.map Answer.row))]) zac
 ps:FunOK Tryz.prog 31 [s.hv,m.hv] zac (.tup [s2.hv,i64 id,i64 e]) zac
 pt:FunOK Tryz.prog 32 [s.hv,m.hv] zac (.tup [s2.hv,i64 id,i64 e]) zac
 pss:FunOK Tryz.prog 28 [s2.hv,s2.hv] zac (hbool true) zac
 po:FunOK Tryz.prog 33 [s.hv] zac s.hv zac
 hsm:FunOK Tryz.prog 28 [s.hv,s.hv] zac (hbool true) zac
 ph:FunOK Tryz.prog 34 [s.hv,k.hv] zac u.hv zac
 pi:FunOK Tryz.prog 35 [s.hv,k.hv] zac u.hv zac
 hhs:FunOK Tryz.prog 28 [u.hv,u.hv] zac (hbool true) zac
 pk:FunOK Tryz.prog 36 [s.hv] zac v.hv zac
 pj:FunOK Tryz.prog 37 [s.hv] zac v.hv zac
 hts:FunOK Tryz.prog 28 [v.hv,v.hv] zac (hbool true) zac
 pc:FunOK Tryz.prog 38 [s.hv] zac (hbool (calm s)) zac
 few:(s.queue.length:Int)+s.out.length < 2 ^ 62
 pm:∀ x ∈ [s2,u,v],∃ N,Pm N x
section
variable {c:Config} {l:List Step} {m:Message} {k:Chunk} {n0 s:Sender} {r:Receiver} {w:List Packet} {az:List Answer} {s2:Sender} {id e:Int} {u v:Sender}
noncomputable def stlA (t:Stl c l m k n0 s r w az s2 id e u v):Σ' G:Prop,G -> FunOK Tryz.prog 5 [c.hv,stps l,m.hv,k.hv] zac (hbool true) zac:=by
 apply PSigma.mk
 intro rest
 refine zah mixed Tryz.func5 (by decide) ?_
 conv=>whnf
 (refine cP ?_;refine dL t.pn ?_)
 (refine cP ?_;refine dL t.pr ?_)
 (refine cL ?_;refine dLm t.p0 ?_)
 (refine cL ?_;refine dLm t.pw ?_)
 (try (refine hcut.go ?_;conv=>whnf))
 (refine cP ?_;refine dL t.pb ?_)
 (refine cP ?_;refine dL t.ps ?_)
 (refine cP ?_;refine dL t.pt ?_)
 rw [show (e != e)=false from bne_self_eq_false _]
 conv=>whnf
 refine zab (bne_self_eq_false _) ?_;conv=>whnf
 (refine cL ?_;refine dLm t.pss ?_)
 (refine cP ?_;refine dLm t.po ?_)
 (refine cL ?_;refine dLm t.hsm ?_)
 exact rest
noncomputable def stlB (t:Stl c l m k n0 s r w az s2 id e u v):Σ' G:Prop,G -> (stlA t).1:=by
 apply PSigma.mk
 intro rest
 conv=>whnf
 (refine cP ?_;refine dLm t.ph ?_)
 (refine cP ?_;refine dLm t.pi ?_)
 (refine cL ?_;refine dLm t.hhs ?_)
 exact rest
noncomputable def stlC (t:Stl c l m k n0 s r w az s2 id e u v):Σ' G:Prop,G -> (stlB t).1:=by
 apply PSigma.mk
 intro rest
 conv=>whnf
 (refine cP ?_;refine dLm t.pk ?_)
 (refine cP ?_;refine dLm t.pj ?_)
 (refine cL ?_;refine dLm t.hts ?_)
 exact rest
theorem stlD (t:Stl c l m k n0 s r w az s2 id e u v):(stlC t).1:=by
 conv=>whnf
 (refine cL ?_;refine dLm t.pc ?_)
 refine zan (z:=(((s.queue.map Queued.row).length:Int)+((s.out.map Sent.row).length:Int))) (W_fit (by have:=t.few;rw [List.length_map,List.length_map];omega) (by have:=t.few;rw [List.length_map,List.length_map];omega)) ?_;conv=>whnf
 refine sDm ?_
 rw [show (!calm s == (((s.queue.map Queued.row).length:Int)+((s.out.map Sent.row).length:Int) == 0))=false by rw [List.length_map,List.length_map,<- ymu];cases calm s <;> rfl]
 conv=>whnf
 (refine cP ?_;refine dL t.pi ?_)
 (refine cP ?_;refine dL t.pj ?_)
 refine sD ?_
 refine ⟨{ w:List Sender × List Sender // [s2,u,v]=w.1++w.2 },fun | ⟨(A,B),_⟩=>hs 162 [(131,.own 900),(132,i64 3),(133,i64 A.length)] [(900,.live (.row 32 21 ([s2,u,v].map Sender.row)))],fun w=>w.1.2.length,⟨([],[s2,u,v]),rfl⟩,?_,?_⟩
 . exact (hle_Q [(900,some 131)])
 rintro ⟨⟨A,B⟩,g⟩
 dsimp only at g
 refine zbk fun Q hQ=>?_
 conv=>whnf
 cases B with
 | nil =>
  have gz:3=A.length:=by have:=congrArg List.length g;simpa using this
  refine sN ?_
  refine hQ _ _ ?_;conv=>whnf
  try rfl
 | cons x B =>
 have gz:3=A.length+(B.length+1):=by have:=congrArg List.length g;simpa using this
 obtain ⟨N,hp⟩:=t.pm x (by rw [g];simp)
 refine sT ?_
 refine zaa ⟨by omega,by rw [List.length_map];show (A.length:Int) < 3;omega⟩ ?_;conv=>whnf
 refine zaj g rfl ?_;conv=>whnf
 (try (refine hcut.go ?_;conv=>whnf))
 rcases hp with hp | ⟨hS,hl⟩
 case inl =>
  rw [show (((x.paths.map Path.row).length:Int) == 0)=true by rw [hp];rfl]
  conv=>whnf
  (try (refine hcut.go ?_;conv=>whnf))
  refine sF ?_
  refine hQ _ _ ?_;conv=>whnf
  exact ⟨⟨(A++[x],B),by rw [g,List.append_assoc];rfl⟩,(hle_Q [(900,some 900)]),by simp⟩
 have hw:=zck hS.cfg
 have hnp:=hS.npaths
 rw [show (((x.paths.map Path.row).length:Int) == 0)=false from beq_eq_false_iff_ne.2 (by rw [List.length_map];omega)]
 conv=>whnf
 (try (refine hcut.go ?_;conv=>whnf))
 have pp:=yhv x hS.pf (by unfold inI;omega) (by omega)
 have pq:=zfn x hS hl
 have ps2:=zlr (yim hS)
 have pf:=zmm (pump x).2 (ziu hS)
 generalize pump x=PP at pp pq ps2 pf
 obtain ⟨y,ks⟩:=PP
 dsimp only at pp pq ps2 pf
 (refine cP ?_;refine dL pp ?_)
 (refine cP ?_;refine dL pq ?_)
 (refine cL ?_;refine dLm ps2 ?_)
 (refine cL ?_;refine dLm pf ?_)
 (try (refine hcut.go ?_;conv=>whnf))
 refine sF ?_
 refine hQ _ _ ?_;conv=>whnf
 exact ⟨⟨(A++[x],B),by rw [g,List.append_assoc];rfl⟩,(hle_Q [(900,some 900)]),by simp⟩
end
theorem sendertells (c:Config) (l:List Step) (m:Message) (k:Chunk) (hb:∀ x ∈ l,x.message.data.length < 2 ^ 38) (hm:m.data.length < 2 ^ 38) (hk:k.spans.length < 2 ^ 60) :
 FunOK Tryz.prog 5 [c.hv,stps l,m.hv,k.hv] zac (hbool true) zac:=by
 have pn:=zsq c
 have pr:=zrn c
 have pw:=zwe c
 by_cases c1:wrgS c=0
 case neg =>
  refine zah mixed Tryz.func5 (by decide) ?_
  conv=>whnf
  rw [show newP c=(noS,wrgS c) from if_neg c1] at pn pr
  dsimp only at pn pr
  generalize wrgS c=e at c1 pn pr pw
  (refine cP ?_;refine dL pn ?_)
  (refine cP ?_;refine dL pr ?_)
  rw [show (e != e)=false from bne_self_eq_false _]
  conv=>whnf
  (refine cL ?_;refine dLm ydg ?_)
  (refine cL ?_;refine dLm pw ?_)
  rw [show (e != e)=false from bne_self_eq_false _]
  conv=>whnf
  (try (refine hcut.go ?_;conv=>whnf))
  refine zad (bne_iff_ne.2 c1) ?_;conv=>whnf
  try rfl
 rw [show newP c=(newS c,0) from if_pos c1] at pn pr
 rw [c1] at pw
 have p0:=zlr (yni c1)
 have pb:=yaa c l c1 hb
 have hli:LI (l.take 200).length (120 * (l.take 200).length) (play (newL c) (l.take 200)).1:=by
  have:=ycy (l.take 200) (zzu c1) (by rw [List.length_take];omega) (by rw [List.length_take];omega)
  simpa using this
 have hsl:=yki (l.take 200) (zzu c1) (ykf c1) (by rw [List.length_take];omega) (by rw [List.length_take];omega)
 have hN:(l.take 200).length <= 200:=by rw [List.length_take];omega
 generalize play (newL c) (l.take 200)=P at pb hli hsl
 generalize (l.take 200).length=N at hli hN
 obtain ⟨⟨s,r,w⟩,az⟩:=P
 have hS:=hli.snd
 dsimp only at pb hS hsl
 rw [show Line.hv ⟨s,r,w⟩=.agg (lnC s r (.p (.sl 3 (w.map Packet.row)))) from rfl] at pb
 have ps:=yhy s m hS.fit hm
 have pt:=zrm s m hS.fit hm
 have pss:FunOK Tryz.prog 28 [(sendR s m).1.hv,(sendR s m).1.hv] zac (hbool true) zac /\ Pm (N+1) (sendR s m).1:=by
  by_cases e1:zdo s m=0
  . rw [zkh e1]
    have h2:=zto hS e1 (by omega)
    exact ⟨zlr h2,.inr ⟨h2,hsl.side rfl⟩⟩
  . rw [zge rfl e1]
    exact ⟨ydg,.inl rfl⟩
 have pmh:Pm N (hear s k):=.inr ⟨zzg hS k,yke hsl k⟩
 have pmt:Pm N (tick s):=.inr ⟨zoz hS,zzz hsl⟩
 have hqo:(s.queue.length:Int)+s.out.length < 2 ^ 62:=by
  have a1:=hS.waits
  have a2:=hS.fit.out.len
  have a3:=zck hS.cfg
  omega
 have t:Stl c l m k (newS c) s r w az (sendR s m).1 (sendR s m).2.1 (sendR s m).2.2 (hear s k) (tick s) :=
  ⟨pn,pr,pw,p0,pb,ps,pt,pss.1,yhw s hS.fit,zlr hS,yie s k hS.fit hS.right hk,zrb s k hS hk,zlr (zzg hS k),yhz s hS.fit,zqx s hS,zlr (zoz hS),yhx s,hqo,fun x hx=>by
   simp only [List.mem_cons,List.not_mem_nil,or_false] at hx
   rcases hx with rfl | rfl | rfl
   . exact ⟨_,pss.2⟩
   . exact ⟨_,pmh⟩
   . exact ⟨_,pmt⟩⟩
 exact (stlA t).2 ((stlB t).2 ((stlC t).2 (stlD t)))
end Ln
end Go.HL
