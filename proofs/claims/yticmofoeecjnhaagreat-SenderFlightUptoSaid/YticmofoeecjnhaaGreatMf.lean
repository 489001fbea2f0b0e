/- Walks, contracts and laws of the law's functions: part 6. No condition. -/
import Derived.Test.YticmofoeecjnhaaGreatMe
set_option linter.unusedSimpArgs false
namespace Go.HL
open Go.Proofs
namespace Ln
open Ser
set_option maxHeartbeats 4000000
set_option maxRecDepth 100000
set_option linter.unusedSimpArgs false
def put1 (w:List Packet) (p:Packet):List Packet:=if w.length < 40 then w++[p] else w
def putW (w ps:List Packet):List Packet:=ps.foldl put1 w
def hear1 (back:Bool) (x:Line × Bool) (c:Chunk):Line × Bool :=
 if back then ({ x.1 with sender:=Snd.hear x.1.sender c },x.2) else
 if c.kind=1 then ({ x.1 with receiver:=Rcv.data x.1.receiver c },true) else
 if c.kind=3 then ({ x.1 with receiver:=Rcv.forward x.1.receiver c },true) else x
def told (path:Int) (l:Line):Line:=if (Pck.pbytes [Rcv.tells l.receiver] 120).2=0 then { l with way:=putW l.way [⟨path,true,(Pck.pbytes [Rcv.tells l.receiver] 120).1⟩] } else l
def zgf (l:Line) (p:Packet):Line × Bool:=(Pck.pparse p.bytes).1.foldl (hear1 p.back) (l,false)
def come (l:Line) (p:Packet):Line :=
 if (Pck.pparse p.bytes).2 ≠ 0 then l else if (zgf l p).2 then told p.path (zgf l p).1 else (zgf l p).1
def emit (l:Line):Line:={ l with sender:=(Snd.pump l.sender).1,way:=putW l.way (Snd.pump l.sender).2 }
def doS (l:Line) (x:Step):Line × Answer :=
 if x.kind=1 then (if Snd.zdj l.sender x.message=0 then (emit { l with sender:=Snd.sendS l.sender x.message },⟨0,l.sender.fates.length⟩) else (l,⟨Snd.zdj l.sender x.message,0⟩)) else
 if x.kind=2 \/ x.kind=3 \/ x.kind=4 then (if x.n < 0 then (l,⟨6,0⟩) else match l.way[x.n.toNat]? with
  | none=>(l,⟨6,0⟩)
  | some p=>if x.kind=4 then (emit { l with way:=putW l.way [p] },⟨0,0⟩) else
   (emit (if x.kind=2 then come { l with way:=l.way.eraseIdx x.n.toNat } p else { l with way:=l.way.eraseIdx x.n.toNat }),⟨0,0⟩)) else
 if x.kind=5 then (emit { l with sender:=Snd.tick l.sender },⟨0,0⟩) else (l,⟨1,0⟩)
def newL (c:Config):Line:=⟨Snd.newS c,Rcv.newR c,[]⟩
theorem yab:∀ (ps w:List Packet),w.length <= 40 -> (putW w ps).length <= 40
 | [],w,h=>h
 | p :: ps,w,h=>by
  unfold putW
  rw [List.foldl_cons]
  refine yab ps _ ?_
  unfold put1
  split
  . simp;omega
  . exact h
theorem ykg:∀ (ps w:List Packet),∀ p ∈ putW w ps,p ∈ w \/ p ∈ ps
 | [],w,p,h=>.inl h
 | q :: ps,w,p,h=>by
  unfold putW at h
  rw [List.foldl_cons] at h
  rcases ykg ps _ p h with h | h
  . unfold put1 at h
    split at h
    . rcases List.mem_append.1 h with h | h
      . exact .inl h
      . rw [List.mem_singleton] at h;subst h;exact .inr (by simp)
    . exact .inl h
  . exact .inr (by simp [h])
theorem zri (l:List Chunk) (most:Int) (h:0 <= most):((Pck.pbytes l most).1.length:Int) <= most:=by
 unfold Pck.pbytes
 (repeat' split) <;> first | (simp;omega) | (dsimp only;omega)
theorem yqf (kind:Int) (b:List UInt8):(Chk.zcb kind b).1.data.length+(Chk.zcb kind b).1.skips.length <= b.length /\ (Chk.zcb kind b).1.spans.length <= b.length:=by
 have h1:=Chk.zhw (b.drop 2)
 have h2:=Chk.zjm (b.drop 4)
 have h3:(b.drop 2).length <= b.length:=by simp
 have h4:(b.drop 4).length <= b.length:=by simp
 unfold Chk.zcb
 (repeat' split) <;> constructor <;> first | (simp [Chk.no];done) | (dsimp only [Chk.no];simp;omega) | (dsimp only [Chk.no];omega)
theorem ynq {b:List UInt8} (h:(Chk.parse b).2.2=0):Rcv.wt (Chk.parse b).1+1 <= (Chk.parse b).2.1.toNat /\ (Chk.parse b).2.1.toNat <= b.length /\ (Chk.parse b).1.spans.length <= b.length:=by
 have h1:=yqf (b[0]?.getD 0).toNat ((b.drop 2).take (b[1]?.getD 0).toNat)
 have h2:((b.drop 2).take (b[1]?.getD 0).toNat).length <= (b[1]?.getD 0).toNat:=by simp;omega
 have h3:((b.drop 2).take (b[1]?.getD 0).toNat).length <= b.length:=by simp;omega
 unfold Chk.parse at h ⊢
 (repeat' split at h) <;> first | contradiction | skip
 . rename_i c1 c2 c3 c4
   rw [if_neg c1,if_neg c2,if_neg c3,if_neg c4]
   unfold Rcv.wt
   dsimp only
   refine ⟨by omega,by omega,by omega⟩
theorem zxj:∀ (f:Nat) (b:List UInt8),Rcv.wts (Pck.zek f b).1 <= b.length /\ ∀ c ∈ (Pck.zek f b).1,c.spans.length <= b.length /\ Rcv.wt c <= b.length
 | 0,b=>by simp [Pck.zek,Rcv.wts]
 | f+1,b=>by
  have ih:=zxj f (b.drop (Chk.parse b).2.1.toNat)
  unfold Pck.zek
  (repeat' split) <;> first | (simp [Rcv.wts];done) | skip
  rename_i c1 c2 c3
  have hp:=ynq (Decidable.not_not.1 c2)
  rw [List.length_drop] at ih
  refine ⟨?_,fun c hc=>?_⟩
  . dsimp only
    rw [Rcv.zhj];omega
  . rcases List.mem_cons.1 hc with rfl | hc
    . exact ⟨hp.2.2,by omega⟩
    . have:=ih.2 c hc;omega
theorem zpc (b:List UInt8):Rcv.wts (Pck.pparse b).1 <= b.length /\ ∀ c ∈ (Pck.pparse b).1,c.spans.length <= b.length /\ Rcv.wt c <= b.length:=by
 unfold Pck.pparse
 split
 . simp [Rcv.wts]
 . exact zxj _ _
theorem ykh {most path:Int} {l:List Chunk} (h0:0 <= most):∀ p ∈ Snd.pack1 most path l,(p.bytes.length:Int) <= most /\ p.back=false:=by
 intro p hp
 unfold Snd.pack1 at hp
 split at hp
 . rw [List.mem_singleton] at hp;subst hp;exact ⟨zri _ _ h0,rfl⟩
 . simp at hp
theorem zxk {most path:Int} (h0:0 <= most):∀ (n:Nat) (l:List Chunk),∀ p ∈ Snd.packN most path n l,(p.bytes.length:Int) <= most /\ p.back=false
 | 0,l,p,hp=>by simp [Snd.packN] at hp
 | n+1,l,p,hp=>by
  unfold Snd.packN at hp
  split at hp
  . simp at hp
  . rcases List.mem_append.1 hp with hp | hp
    . exact ykh h0 p hp
    . exact zxk h0 n _ p hp
theorem zmn {most:Int} (h0:0 <= most):∀ (ls:List (List Chunk)) (k:Nat),∀ p ∈ Snd.zay most k ls,(p.bytes.length:Int) <= most /\ p.back=false
 | [],k,p,hp=>by simp [Snd.zay] at hp
 | l :: ls,k,p,hp=>by
  unfold Snd.zay at hp
  rcases List.mem_append.1 hp with hp | hp
  . exact zxk h0 _ _ p hp
  . exact zmn h0 ls _ p hp
structure LI (N M:Nat) (l:Line):Prop where
 snd:Snd.SI N l.sender
 rcv:Rcv.RFit M l.receiver
 small:M <= 2 ^ 20
 way:l.way.length <= 40
 bytes:∀ p ∈ l.way,p.bytes.length <= 120
section
variable {N M:Nat} {l:Line}
theorem LI.more (h:LI N M l) {M':Nat} (h1:M <= M') (h2:M' <= 2 ^ 20):LI N M' l:=⟨h.snd,h.rcv.more h1,h2,h.way,h.bytes⟩
theorem ztz {back:Bool} {x:Line × Bool} {c:Chunk} (h:LI N M x.1) (hM:M+Rcv.wt c <= 2 ^ 20):LI N (M+Rcv.wt c) (hear1 back x c).1:=by
 have hw:Rcv.wt c=c.data.length+c.skips.length+1:=rfl
 unfold hear1
 split
 . exact ⟨Snd.yqa h.snd c,h.rcv.more (by omega),hM,h.way,h.bytes⟩
 split
 . exact ⟨h.snd,(Rcv.ynp h.rcv (by omega) c).more (by omega),hM,h.way,h.bytes⟩
 split
 . exact ⟨h.snd,(Rcv.zzy h.rcv (by omega) c (by omega)).more (by omega),hM,h.way,h.bytes⟩
 . exact h.more (by omega) hM
theorem ydg {back:Bool}:∀ (cs:List Chunk) {M:Nat} {x:Line × Bool},LI N M x.1 -> M+Rcv.wts cs <= 2 ^ 20 -> LI N (M+Rcv.wts cs) (cs.foldl (hear1 back) x).1
 | [],M,x,h,_=>h
 | c :: cs,M,x,h,hM=>by
  rw [Rcv.zhj] at hM ⊢
  have:=ydg (back:=back) cs (ztz (back:=back) (c:=c) h (by omega)) (by omega)
  rw [<- Nat.add_assoc];exact this
theorem ydh (h:LI N M l) {ps:List Packet} (hp:∀ p ∈ ps,p.bytes.length <= 120):LI N M { l with way:=putW l.way ps } :=
 ⟨h.snd,h.rcv,h.small,yab ps _ h.way,fun p hq=>by rcases ykg ps _ p hq with hq | hq;exact h.bytes p hq;exact hp p hq⟩
theorem yqg (h:LI N M l) (path:Int):LI N M (told path l):=by
 unfold told
 split
 . refine ydh h fun p hp=>?_
   rw [List.mem_singleton] at hp;subst hp
   have:=zri [Rcv.tells l.receiver] 120 (by decide)
   dsimp only;omega
 . exact h
theorem zpd (h:LI N M l) {p:Packet} (hp:p.bytes.length <= 120) (hM:M+120 <= 2 ^ 20):LI N (M+120) (come l p):=by
 have hw:=(zpc p.bytes).1
 have h2:LI N (M+120) (zgf l p).1:=(ydg (back:=p.back) (Pck.pparse p.bytes).1 (x:=(l,false)) h (by omega)).more (by omega) hM
 unfold come
 split
 . exact h.more (by omega) hM
 split
 . exact yqg h2 _
 . exact h2
theorem zua (h:LI N M l):LI N M (emit l):=by
 have hw:=Snd.zbv h.snd.cfg
 have hc:=Snd.ztq h.snd
 have h2:LI N M { l with sender:=(Snd.pump l.sender).1 }:=⟨Snd.zzp h.snd,h.rcv,h.small,h.way,h.bytes⟩
 refine ydh h2 fun p hp=>?_
 have:=(zmn (by omega) _ _ p hp).1
 omega
theorem yrj (h:LI N M l) (x:Step) (hN:N+1 <= 2 ^ 20) (hM:M+120 <= 2 ^ 20):LI (N+1) (M+120) (doS l x).1:=by
 have h0:LI (N+1) (M+120) l:=⟨h.snd.mono (by omega) hN,h.rcv.more (by omega),hM,h.way,h.bytes⟩
 unfold doS
 split
 . split
   . rename_i e
     exact zua (l:={ l with sender:=Snd.sendS l.sender x.message }) ⟨Snd.zjq h.snd e hN,h0.rcv,hM,h.way,h.bytes⟩
   . exact h0
 split
 . split
   . exact h0
   split
   . exact h0
   rename_i p hp
   have hb:=h.bytes p (List.mem_of_getElem? hp)
   have he:∀ {N M:Nat},LI N M l -> LI N M { l with way:=l.way.eraseIdx x.n.toNat }:=fun h =>
    ⟨h.snd,h.rcv,h.small,by show (l.way.eraseIdx _).length <= 40;have:=h.way;rw [List.length_eraseIdx];split <;> omega,fun q hq=>h.bytes q (List.mem_of_mem_eraseIdx hq)⟩
   split
   . refine zua (ydh h0 fun q hq=>?_)
     rw [List.mem_singleton] at hq;subst hq;exact hb
   . refine zua ?_
     split
     . exact zpd (he ⟨h.snd.mono (by omega) hN,h.rcv,h.small,h.way,h.bytes⟩) hb hM
     . exact he h0
 split
 . exact zua (l:={ l with sender:=Snd.tick l.sender }) ⟨Snd.zlv h0.snd,h0.rcv,hM,h.way,h.bytes⟩
 . exact h0
end
theorem yqh {c:Config} (h:Snd.wrgS c=0):LI 0 0 (newL c):=by
 have hw:=Snd.zbv h
 have hl:(Rcv.newR c).turn.length <= 4:=by simp [Rcv.newR];omega
 have ht:∀ t ∈ (Rcv.newR c).turn,t=0:=fun t ht=>(List.mem_replicate.1 ht).2
 exact ⟨Snd.yom h,⟨Nat.le_refl _,Nat.le_refl _,Nat.le_refl _,trivial,by simp [newL,Rcv.newR],by simp [newL,Rcv.newR],by show -1 <= c.first - 1;omega,by show c.first - 1 <= _;omega,fun t htt=>by rw [ht t htt];decide,fun t htt=>by rw [ht t htt];simp [newL,Rcv.newR],by show (Rcv.newR c).turn.length < _;omega⟩,by decide,by simp [newL],by simp [newL]⟩
end Ln
end Go.HL
namespace Go.HL
open Go.Proofs
namespace Ln
open Ser
set_option maxHeartbeats 8000000
set_option maxRecDepth 100000
set_option linter.unusedSimpArgs false
abbrev pks (l:List Packet):HV:=.p (.sl 3 (l.map Packet.row))
def lnC (s:Sender) (r:Receiver) (w:HV):List HV:=[i64 s.config.streams,i64 s.config.part,i64 s.config.packet,i64 s.config.paths,i64 s.config.turns,i64 s.config.waiting,i64 s.config.first,i64 s.clock,Sch.qs s.queue,i64 s.sched.last,i64 s.sched.hand,ints s.sched.had,Sco.sents s.out,Snd.pths s.paths,i64 s.cum,i64 s.next,i64 s.room,ints s.mids,ints s.fates,hbool s.forward,i64 s.recover,
 i64 r.config.streams,i64 r.config.part,i64 r.config.packet,i64 r.config.paths,i64 r.config.turns,i64 r.config.waiting,i64 r.config.first,i64 r.cum,.p (.sl 2 (r.spans.map Span.row)),.p (.sl 12 (r.pieces.map Piece.row)),ints r.turn,.p (.sl 4 (r.log.map Arrival.row)),w]
abbrev lnB (s:Sender) (r:Receiver) (w:HV):HSlot:=.live (.cells 40 (lnC s r w))
end Ln
end Go.HL
namespace Go.HL
open Go.Proofs
namespace Ln
open Ser
set_option maxHeartbeats 8000000
set_option maxRecDepth 100000
set_option linter.unusedSimpArgs false
theorem yki (back:Bool) (x:Line × Bool) (c:Chunk):(hear1 back x c).1.way=x.1.way:=by
 unfold hear1;(repeat' split) <;> rfl
theorem ykj:∀ cs:List Chunk,cs.length <= Rcv.wts cs
 | []=>by simp [Rcv.wts]
 | c :: cs=>by
  have:=ykj cs
  rw [Rcv.zhj,List.length_cons];unfold Rcv.wt;omega
theorem yac (r:Receiver):Pck.Sized [Rcv.tells r]:=⟨by simp,fun c hc=>by
 rw [List.mem_singleton] at hc
 subst hc
 exact ⟨by simp [Rcv.tells];omega,by simp [Rcv.tells]⟩⟩
end Ln
end Go.HL
namespace Go.HL
open Go.Proofs
namespace Ln
open Ser
set_option maxHeartbeats 8000000
set_option maxRecDepth 100000
set_option linter.unusedSimpArgs false
theorem ykk (l A:List Packet) (p:Packet):putW l (A++[p])=put1 (putW l A) p:=by unfold putW;rw [List.foldl_append];rfl
abbrev rowP (l:List Packet):HSlot:=.live (.row 110 3 (l.map Packet.row))
theorem zpe (l ps:List Packet) (hl:l.length <= 40) (hp:ps.length < 2 ^ 62):FunOK Tryz.prog 107 [pks l,pks ps] zad (pks (putW l ps)) zad:=by
 refine zai mixed Tryz.func107 (by decide) ?_
 conv=>whnf
 refine zaa (c:=(([]:List (List PV)).length+(l.map Packet.row).length) * 40 <= 140737488355328) (by simp;omega) ?_;conv=>whnf
 refine ⟨{ x:List Packet × List Packet // ps=x.1++x.2 },fun | ⟨(A,B),_⟩=>hs 26 [(5,.own 900),(11,pks ps),(12,i64 ps.length),(13,i64 A.length)] [(900,rowP (putW l A))],fun x=>x.1.2.length,⟨([],ps),rfl⟩,?_,?_⟩
 . exact (hle_Q [(900,some 10)])
 rintro ⟨⟨A,B⟩,h⟩
 dsimp only at h
 conv=>whnf
 cases B with
 | cons p B =>
  have hz:=zat h
  have hn:=ykk l A p
  have hle:=yab A l hl
  refine sT ?_
  refine zaj h rfl ?_;conv=>whnf
  (try (refine hcut.go ?_;conv=>whnf))
  by_cases c1:(putW l A).length < 40
  case pos =>
   rw [put1,if_pos c1] at hn
   refine zac (by rw [List.length_map,decide_eq_true_eq];omega) ?_;conv=>whnf
   refine zaa (c:=(((putW l A).map Packet.row).length+1) * 40 <= 140737488355328) (by rw [List.length_map];omega) ?_;conv=>whnf
   refine sF ?_
   exact ⟨⟨(A++[p],B),zae h⟩,(hle_X [(900,some 23)] (by repeat' (first | exact z0 | refine z1 ?_ | refine ⟨?_,?_⟩ | ((exact zas (f:=Packet.row) hn rfl)) | exact z2))),by simp⟩
  rw [put1,if_neg c1] at hn
  refine zab (by rw [List.length_map,decide_eq_false_iff_not];omega) ?_;conv=>whnf
  (try (refine hcut.go ?_;conv=>whnf))
  refine sF ?_
  exact ⟨⟨(A++[p],B),zae h⟩,(hle_X [(900,some 900)] (by repeat' (first | exact z0 | refine z1 ?_ | refine ⟨?_,?_⟩ | ((rw [hn])) | exact z2))),by simp⟩
 | nil =>
  have hz:=zaz h
  rw [List.append_nil] at h
  subst h
  ((refine hif_F ?_;conv=>whnf);try (refine hcut.go ?_;conv=>whnf))
theorem zfs (l ps:List Packet) (hl:l.length <= 40) (hp:ps.length < 2 ^ 62) {rows:List (List PV)} (hr:rows=l.map Packet.row):FunOK Tryz.prog 107 [.p (.sl 3 rows),pks ps] zad (pks (putW l ps)) zad:=by
 subst hr;exact zpe l ps hl hp
abbrev yrk:List HV:=[i64 0,i64 0,i64 0,i64 0,i64 0,i64 0,i64 0,i64 0,hnil,i64 0,i64 0,hnil,hnil,hnil,i64 0,i64 0,i64 0,hnil,hnil,hbool false,i64 0,i64 0,i64 0,i64 0,i64 0,i64 0,i64 0,i64 0,i64 0,hnil,hnil,hnil,hnil,hnil]
abbrev lnS (l:Line):HSlot:=lnB l.sender l.receiver (pks l.way)
abbrev rcH (y:Line) (p:Packet):List (Nat × HSlot):=[(2,lnS y),(3,.live (.cells 110 p.cells)),(4,.live (.cells 40 yrk))]
theorem ygb {N M:Nat} (l:Line) (p:Packet) (h:LI N M l) (hM:M+120 <= 2 ^ 20) (hp:p.bytes.length <= 120):FunOK Tryz.prog 108 [l.hv,p.hv] zad (come l p).hv zad:=by
 obtain ⟨path,back,bytes⟩:=p
 dsimp only at hp
 generalize hT:come l ⟨path,back,bytes⟩=T
 refine zai mixed Tryz.func108 (by decide) ?_
 have hw:=zpc bytes
 have pp:=Pck.zvq bytes (by omega)
 rw [come] at hT
 dsimp only at hT
 have hall:zgf l ⟨path,back,bytes⟩=(Pck.pparse bytes).1.foldl (hear1 back) (l,false):=rfl
 generalize Pck.pparse bytes=K at hT hw hall pp
 obtain ⟨cs,e⟩:=K
 dsimp only at hT hw hall pp
 by_cases c1:e=0
 case neg =>
  rw [if_pos c1] at hT
  subst hT
  conv=>whnf
  (refine cP ?_;refine dL pp ?_)
  refine zac (bne_iff_ne.2 c1) ?_;conv=>whnf
  try rfl
 subst c1
 rw [if_neg (fun h=>h rfl)] at hT
 conv=>whnf
 (refine cP ?_;refine dL pp ?_)
 (try (refine hcut.go ?_;conv=>whnf))
 refine ⟨{ x:(Line × Bool) × List Chunk × List Chunk // cs=x.2.1++x.2.2 /\ x.2.1.foldl (hear1 back) (l,false)=x.1 /\ LI N (M+Rcv.wts x.2.1) x.1.1 /\ x.1.1.way=l.way },fun | ⟨((y,told),A,B),_⟩=>hs 75 [(2,.ptr 2 0),(3,.ptr 3 0),(4,.ptr 4 0),(7,hbool told),(21,.p (.sl 11 (cs.map Chunk.row))),(22,i64 cs.length),(23,i64 A.length)] (rcH y ⟨path,back,bytes⟩),fun x=>x.1.2.2.length,⟨((l,false),[],cs),rfl,rfl,by simpa [Rcv.wts] using h,rfl⟩,?_,?_⟩
 . exact (hle_Q [(2,some 2),(3,some 3),(4,some 4)])
 rintro ⟨⟨⟨y,told⟩,A,B⟩,k1,k2,k3,k4⟩
 dsimp only at k1 k2 k3 k4
 refine zbl fun Q hQ=>?_
 conv=>whnf
 cases B with
 | cons c B =>
  have hz:=zat k1
  obtain ⟨w1,w2⟩:=hw
  have hcl:=ykj cs
  have hc:=w2 c (zfp k1)
  have hsum:Rcv.wts cs=Rcv.wts A+(Rcv.wt c+Rcv.wts B):=by rw [k1,Rcv.ykf,Rcv.zhj]
  have hwt:Rcv.wt c=c.data.length+c.skips.length+1:=rfl
  have hnx:(A++[c]).foldl (hear1 back) (l,false)=hear1 back (y,told) c:=by rw [List.foldl_append,k2];rfl
  have hli:=ztz (back:=back) (x:=(y,told)) (c:=c) k3 (by omega)
  have hwy:=(yki back (y,told) c).trans k4
  rw [show M+Rcv.wts A+Rcv.wt c=M+Rcv.wts (A++[c]) by rw [Rcv.ykf,Rcv.zhj];simp [Rcv.wts];omega] at hli
  refine sT ?_
  refine zaj k1 rfl ?_;conv=>whnf
  (try (refine hcut.go ?_;conv=>whnf))
  cases back with
  | true =>
   conv=>whnf
   (refine cP ?_;refine dL (Snd.yfu y.sender c k3.snd (by omega)) ?_)
   (try (refine hcut.go ?_;conv=>whnf))
   refine sF ?_
   refine hQ _ _ ?_;conv=>whnf
   exact ⟨⟨(hear1 true (y,told) c,A++[c],B),zae k1,hnx,hli,hwy⟩,(hle_Q [(2,some 2),(3,some 3),(4,some 4)]),by simp⟩
  | false =>
   conv=>whnf
   (try (refine hcut.go ?_;conv=>whnf))
   by_cases d1:c.kind=1
   case pos =>
    have e1:hear1 false (y,told) c=({ y with receiver:=Rcv.data y.receiver c },true):=by unfold hear1;rw [if_neg (by decide),if_pos d1]
    rw [e1] at hnx hli hwy
    refine zac (beq_iff_eq.2 d1) ?_;conv=>whnf
    (refine cP ?_;refine dL (Rcv.yfz y.receiver c k3.rcv (by omega) (by omega)) ?_)
    (try (refine hcut.go ?_;conv=>whnf))
    refine sF ?_
    refine hQ _ _ ?_;conv=>whnf
    exact ⟨⟨(({ y with receiver:=Rcv.data y.receiver c },true),A++[c],B),zae k1,hnx,hli,hwy⟩,(hle_Q [(2,some 2),(3,some 3),(4,some 4)]),by simp⟩
   refine zab (beq_eq_false_iff_ne.2 d1) ?_;conv=>whnf
   (try (refine hcut.go ?_;conv=>whnf))
   by_cases d2:c.kind=3
   case pos =>
    have e1:hear1 false (y,told) c=({ y with receiver:=Rcv.forward y.receiver c },true):=by unfold hear1;rw [if_neg (by decide),if_neg d1,if_pos d2]
    rw [e1] at hnx hli hwy
    refine zac (beq_iff_eq.2 d2) ?_;conv=>whnf
    (refine cP ?_;refine dL (Rcv.zty y.receiver c k3.rcv (by omega) (by omega)) ?_)
    (try (refine hcut.go ?_;conv=>whnf))
    refine sF ?_
    refine hQ _ _ ?_;conv=>whnf
    exact ⟨⟨(({ y with receiver:=Rcv.forward y.receiver c },true),A++[c],B),zae k1,hnx,hli,hwy⟩,(hle_Q [(2,some 2),(3,some 3),(4,some 4)]),by simp⟩
   have e1:hear1 false (y,told) c=(y,told):=by unfold hear1;rw [if_neg (by decide),if_neg d1,if_neg d2]
   rw [e1] at hnx hli hwy
   refine zab (beq_eq_false_iff_ne.2 d2) ?_;conv=>whnf
   (try (refine hcut.go ?_;conv=>whnf))
   refine sF ?_
   refine hQ _ _ ?_;conv=>whnf
   exact ⟨⟨((y,told),A++[c],B),zae k1,hnx,hli,hwy⟩,(hle_Q [(2,some 2),(3,some 3),(4,some 4)]),by simp⟩
 | nil =>
 have hz:=zaz k1
 rw [List.append_nil] at k1
 rw [<- k1] at k2 k3
 rw [hall,k2] at hT
 dsimp only at hT
 obtain ⟨w1,w2⟩:=hw
 have hfit:=k3.rcv.fit (by omega)
 refine sN ?_
 refine hQ _ _ ?_;conv=>whnf
 cases told with
 | false =>
  rw [if_neg (by decide)] at hT
  subst hT
  conv=>whnf
  (try (refine hcut.go ?_;conv=>whnf))
  try rfl
 | true =>
 rw [if_pos rfl] at hT
 conv=>whnf
 (try (refine hcut.go ?_;conv=>whnf))
 have hcb:=k3.rcv.cumB (by omega)
 (refine cP ?_;refine dL (Rcv.yaa y.receiver (by have:=hfit.spans;omega) (by have:=hfit.pieces;omega) (by have:=hfit.bytes;omega) hcb.1 hcb.2 (k3.rcv.spansB (by omega))) ?_)
 (refine cP ?_;refine dL (Pck.zgc [Rcv.tells y.receiver] 120 (yac _)) ?_)
 unfold Ln.told at hT
 generalize Pck.pbytes [Rcv.tells y.receiver] 120=K2 at hT ⊢
 obtain ⟨b,e⟩:=K2
 dsimp only at hT
 by_cases c3:e=0
 case pos =>
  rw [if_pos c3] at hT
  subst hT c3
  conv=>whnf
  (refine cP ?_;refine dL (zpe y.way [⟨path,true,b⟩] (by rw [k4];exact h.way) (by simp)) ?_)
  try rfl
 case neg =>
  rw [if_neg c3] at hT
  subst hT
  refine zab (beq_eq_false_iff_ne.2 c3) ?_;conv=>whnf
  try rfl
end Ln
end Go.HL
namespace Go.HL
open Go.Proofs
namespace Snd
open Ser
set_option maxHeartbeats 4000000
set_option linter.unusedSimpArgs false
theorem zxl {α:Type} {o:List α} {c:α} {k:Nat} {f:α -> α} (h:k < o.length):setAt (o++[c]) k f=setAt o k f++[c]:=by
 unfold setAt
 rw [List.getElem?_append_left h]
 obtain ⟨x,hx⟩:∃ x,o[k]?=some x:=⟨_,List.getElem?_eq_getElem h⟩
 rw [hx]
 dsimp only
 rw [List.set_append_left _ _ h]
def ext (p:Pump):Pump:=⟨p.s,p.out++[[]]⟩
theorem yad (p:Pump) (i path:Nat):(fly p i path).out.length=p.out.length:=by
 unfold fly;split
 . rfl
 . exact zdo _ _ _
theorem ydi (p:Pump) (i path:Nat):(fly p i path).s.paths.length=p.s.paths.length:=by
 unfold fly;split
 . rfl
 . exact zdo _ _ _
theorem ykl {p:Pump} {i path:Nat} (h:path < p.out.length):fly (ext p) i path=ext (fly p i path):=by
 unfold fly ext
 dsimp only
 split
 . rfl
 . rw [zxl h]
theorem ygc {p:Pump} {i path:Nat} (h:path < p.out.length):zbq path (ext p) i=ext (zbq path p i):=by
 have h2:=ykl (i:=i) h
 unfold zbq
 show (match p.s.out[i]? with | none=>ext p | some x=>if x.state=3 /\ opened p.s path=true then fly (ext p) i path else ext p)=_
 cases p.s.out[i]? with
 | none=>rfl
 | some x =>
  dsimp only
  by_cases c:x.state=3 /\ opened p.s path=true
  . rw [if_pos c,if_pos c];exact h2
  . rw [if_neg c,if_neg c]
theorem ygd (p:Pump) (i path:Nat):(zbq path p i).out.length=p.out.length:=by
 unfold zbq
 split
 . rfl
 . split
   . exact yad _ _ _
   . rfl
theorem zlz {path:Nat}:∀ (L:List Nat) {p:Pump},path < p.out.length -> L.foldl (zbq path) (ext p)=ext (L.foldl (zbq path) p) /\ (L.foldl (zbq path) p).out.length=p.out.length
 | [],p,_=>⟨rfl,rfl⟩
 | i :: L,p,h=>by
  have h1:=ygd p i path
  obtain ⟨h2,h3⟩:=zlz L (p:=zbq path p i) (by rw [h1];exact h)
  rw [List.foldl_cons,List.foldl_cons,ygc h]
  exact ⟨h2,h3.trans h1⟩
theorem ykm {p:Pump} (h:choose p.s < p.out.length):again (ext p)=ext (again p):=(zlz _ h).1
theorem ykn {p:Pump} (h:choose p.s < p.out.length):(again p).out.length=p.out.length:=(zlz _ h).2
theorem yko {p:Pump} {k:Nat} {m:Queued} {n:Int} (h:choose p.s < p.out.length):next1 (ext p) k m n=ext (next1 p k m n):=by
 unfold next1
 exact ykl (p:=⟨_,p.out⟩) h
theorem ynr {p:Pump} (h:choose p.s < p.out.length):next (ext p)=(next p).map ext:=by
 unfold next
 show (if zcn p.s < 0 \/ opened p.s (choose p.s)=false \/ (p.s.out.length:Int) >= 60 then none else match p.s.queue[(zcn p.s).toNat]? with
  | none=>none
  | some m=>if flight p.s > 0 /\ W (flight p.s+many p.s m) > p.s.room then none else some (next1 (ext p) (zcn p.s).toNat m (many p.s m)))=_
 by_cases c1:zcn p.s < 0 \/ opened p.s (choose p.s)=false \/ (p.s.out.length:Int) >= 60
 . rw [if_pos c1,if_pos c1];rfl
 rw [if_neg c1,if_neg c1]
 cases p.s.queue[(zcn p.s).toNat]? with
 | none=>rfl
 | some m =>
  dsimp only
  by_cases c2:flight p.s > 0 /\ W (flight p.s+many p.s m) > p.s.room
  . rw [if_pos c2,if_pos c2];rfl
  . rw [if_neg c2,if_neg c2,yko h];rfl
theorem yae {p:Pump} (h:choose p.s < p.out.length):forward (ext p)=ext (forward p):=by
 unfold forward
 show (if p.s.forward=false \/ (Sco.point p.s.out p.s.cum).1=p.s.cum then ext p else _)=_
 by_cases c:p.s.forward=false \/ (Sco.point p.s.out p.s.cum).1=p.s.cum
 . rw [if_pos c,if_pos c]
 . rw [if_neg c,if_neg c];unfold ext;dsimp only;rw [zxl h]
theorem zmo (most:Int):∀ (k:Nat) (o:List (List Chunk)),zay most k (o++[[]])=zay most k o
 | k,[]=>rfl
 | k,l :: o=>by
  show packN most k l.length l++zay most (k+1) (o++[[]])=_
  rw [zmo most (k+1) o];rfl
def SL (s:Sender):Prop:=0 <= s.sched.last /\ s.sched.last < s.sched.had.length
theorem ykp {s:Sender} {id:Int} (h:SL s):SL (giveS s id):=by
 have e:(giveS s id).sched=if s.sched.hand=id then { s.sched with hand:=-1 } else s.sched:=rfl
 unfold SL;rw [e];split <;> exact h
theorem yqi {s:Sender} {m:Queued} (h:SL s):SL (expQ s m):=by unfold expQ;split;exact ykp h;exact h
theorem yqj {s:Sender} {m:Sent} (h:SL s):SL (expX s m):=by unfold expX;split;exact ykp h;exact h
theorem ydj:∀ (q:List Queued) {s:Sender},SL s -> SL (q.foldl expQ s)
 | [],_,h=>h
 | _ :: q,_,h=>ydj q (yqi h)
theorem ydk:∀ (q:List Sent) {s:Sender},SL s -> SL (q.foldl expX s)
 | [],_,h=>h
 | _ :: q,_,h=>ydk q (yqj h)
theorem zxm {s:Sender} (h:SL s):SL (expire s):=ydk _ (ydj _ h)
theorem zxn (p:Pump) (i path:Nat):(fly p i path).s.sched=p.s.sched:=by unfold fly;split <;> rfl
theorem zkv (p:Pump):(forward p).s.sched=p.s.sched:=by unfold forward;split <;> rfl
theorem zkw {p q:Pump} (h:next p=some q):(p.s.out.length:Int) < 60 /\ ∃ (k:Nat) (m:Queued),p.s.queue[k]?=some m /\ q=next1 p k m (many p.s m):=by
 unfold next at h
 by_cases c1:zcn p.s < 0 \/ opened p.s (choose p.s)=false \/ (p.s.out.length:Int) >= 60
 . rw [if_pos c1] at h;cases h
 rw [if_neg c1] at h
 refine ⟨by omega,(zcn p.s).toNat,?_⟩
 cases hm:p.s.queue[(zcn p.s).toNat]? with
 | none=>rw [hm] at h;cases h
 | some m =>
  rw [hm] at h
  dsimp only at h
  split at h
  . cases h
  . cases h;exact ⟨m,rfl,rfl⟩
theorem ykq {N:Nat} {p q:Pump} (hS:SI N p.s) (h:next p=some q):SL q.s:=by
 obtain ⟨-,k,m,hm,rfl⟩:=zkw h
 have hq:=hS.queue m (List.mem_of_getElem? hm)
 have hn:=hS.nhad
 have h0:=hq.st0
 have h1:=hq.st1
 obtain ⟨ps,po⟩:=p
 unfold SL
 rw [zdx,zxn]
 show 0 <= m.message.stream /\ m.message.stream < ((Sch.had ps.sched _ _ _).had.length:Int)
 rw [yje]
 dsimp only at hn h1
 omega
theorem yns {ps:Sender} {a c:List Chunk} {q:Pump} (h:next ⟨ps,[a,c]⟩=some q):(ps.out.length:Int) < 60 /\ q.out.length=2 /\ q.s.paths.length=ps.paths.length /\ q.s.out.length=ps.out.length+1 /\ (nth0 q.out).length <= a.length+1 /\ (nth1 q.out).length <= c.length+1:=by
 obtain ⟨h1,k,m,hm,rfl⟩:=zkw h
 refine ⟨h1,?_,?_,?_,?_⟩
 . rw [zdx,yad];rfl
 . rw [zdx,ydi];rfl
 . rw [zdx];unfold fly;dsimp only;split <;> simp [cutS]
 . rw [zdx];unfold fly;dsimp only;split
   . exact ⟨by show a.length <= _;omega,by show c.length <= _;omega⟩
   . rcases hc:choose ps with _ | _ | n
     . constructor
       . show (a++[_]).length <= _;simp
       . show c.length <= _;omega
     . constructor
       . show a.length <= _;omega
       . show (c++[_]).length <= _;simp
     . constructor
       . show a.length <= _;omega
       . show c.length <= _;omega
end Snd
end Go.HL
namespace Go.HL
open Go.Proofs
namespace Snd
open Ser
set_option maxHeartbeats 4000000
set_option linter.unusedSimpArgs false
def OK2 (p:Pump):Prop:=∀ l ∈ p.out,∀ c ∈ l,Okc c
theorem yrl {np nf:Nat} {x:Sent} (h:XI np nf x):Okc x.chunk:=by unfold Okc;rw [h.spans,h.skips];simp
theorem ykr {o:List (List Chunk)} {k:Nat} {x:Chunk} {l:List Chunk} (h:l ∈ setAt o k (·++[x])):l ∈ o \/ ∃ m ∈ o,l=m++[x]:=by
 unfold setAt at h
 split at h
 . exact .inl h
 . rename_i y hy
   rcases List.mem_or_eq_of_mem_set h with h | h
   . exact .inl h
   . exact .inr ⟨y,List.mem_of_getElem? hy,h⟩
theorem ydl {s:Sender} {o:List (List Chunk)} {k:Nat} {x:Chunk} (h:OK2 ⟨s,o⟩) (hx:Okc x):∀ l ∈ setAt o k (·++[x]),∀ c ∈ l,Okc c:=by
 intro l hl c hc
 rcases ykr hl with h1 | ⟨m,hm,rfl⟩
 . exact h l h1 c hc
 . rcases List.mem_append.1 hc with h2 | h2
   . exact h m hm c h2
   . rw [List.mem_singleton] at h2;subst h2;exact hx
theorem yks {N:Nat} {p:Pump} (hS:SI N p.s) (h:OK2 p) (i path:Nat):OK2 (fly p i path):=by
 unfold fly
 split
 . exact h
 . rename_i x hx
   exact ydl (s:=p.s) h (yrl (hS.out x (List.mem_of_getElem? hx)))
theorem yge {N:Nat} {p:Pump} (hS:SI N p.s) (h:OK2 p) (path i:Nat):OK2 (zbq path p i):=by
 unfold zbq
 split
 . exact h
 . split
   . exact yks hS h _ _
   . exact h
theorem zrj {N path:Nat}:∀ (L:List Nat) {p:Pump},SI N p.s -> path < p.s.paths.length -> OK2 p -> OK2 (L.foldl (zbq path) p)
 | [],_,_,_,h=>h
 | i :: L,p,hS,hp,h=>by
  obtain ⟨h1,h2⟩:=zif hS hp i
  exact zrj L h1 (by rw [h2];exact hp) (yge hS h path i)
theorem ykt {N:Nat} {p:Pump} (hS:SI N p.s) (h:OK2 p):OK2 (again p):=zrj _ hS (choose_lt' hS) h
theorem ynt {N:Nat} {p q:Pump} (hS:SI N p.s) (h:OK2 p) (hq:next p=some q):OK2 q:=by
 obtain ⟨-,k,m,hm,rfl⟩:=zkw hq
 obtain ⟨ps,po⟩:=p
 rw [zdx]
 exact yks (p:=⟨cutS ps k m,po⟩) (ycq hS hm) h _ _
theorem zxo {N:Nat}:∀ (n:Nat) {p:Pump},SI N p.s -> OK2 p -> OK2 (nexts n p)
 | 0,_,_,h=>h
 | n+1,p,hS,h=>by
  rw [nexts]
  cases hq:next p with
  | none=>exact h
  | some q=>exact zxo n (zjr hS hq) (ynt hS h hq)
theorem yaf {p:Pump} (h:OK2 p):OK2 (forward p):=by
 unfold forward
 split
 . exact h
 . exact ydl (s:=p.s) h (yio p.s)
theorem zxp {N:Nat}:∀ (n:Nat) {p:Pump},SI N p.s -> p.out.length=p.s.paths.length -> nexts n (ext p)=ext (nexts n p)
 | 0,_,_,_=>rfl
 | n+1,p,hS,hl=>by
  have hc:choose p.s < p.out.length:=by rw [hl];exact choose_lt' hS
  rw [nexts,nexts,ynr hc]
  cases hq:next p with
  | none=>rfl
  | some q =>
   obtain ⟨-,k,m,hm,he⟩:=zkw hq
   have hql:q.out.length=q.s.paths.length:=by
    rw [he];obtain ⟨ps,po⟩:=p
    rw [zdx,yad,ydi];exact hl
   exact zxp n (zjr hS hq) hql
theorem ygf {N:Nat} {p:Pump} (hS:SI N p.s):(again p).s.paths.length=p.s.paths.length:=by
 have key:∀ (L:List Nat) (path:Nat) {p:Pump},SI N p.s -> path < p.s.paths.length -> (L.foldl (zbq path) p).s.paths.length=p.s.paths.length:=by
  intro L path
  induction L with
  | nil=>intro p _ _;rfl
  | cons i L ih =>
   intro p hS hp
   obtain ⟨h1,h2⟩:=zif hS hp i
   rw [List.foldl_cons,ih h1 (by rw [h2];exact hp),h2]
 exact key _ _ hS (choose_lt' hS)
theorem ynu {N:Nat} {E:Sender} (hE:SI N E) (hp:E.paths.length=1 \/ E.paths.length=2) (most:Int):(nexts 61 (again (forward ⟨E,[[],[]]⟩))).s=(nexts 61 (again (forward ⟨E,List.replicate E.paths.length []⟩))).s /\
 zay most 0 (nexts 61 (again (forward ⟨E,[[],[]]⟩))).out=zay most 0 (nexts 61 (again (forward ⟨E,List.replicate E.paths.length []⟩))).out:=by
 rcases hp with hp | hp
 . have e0:(⟨E,[[],[]]⟩:Pump)=ext ⟨E,[[]]⟩:=rfl
   have hc0:choose E < 1:=by rw [<- hp];exact choose_lt' hE
   rw [hp,e0,yae (p:=⟨E,[[]]⟩) hc0]
   show _ /\ _=zay most 0 (nexts 61 (again (forward ⟨E,[[]]⟩))).out
   have hF:SI N (forward ⟨E,[[]]⟩).s:=zes hE
   have hFo:(forward ⟨E,[[]]⟩).out.length=1:=by unfold forward;split <;> simp [zdo]
   have hFp:(forward ⟨E,[[]]⟩).s.paths.length=1:=by unfold forward;split <;> simp [zdo,hp]
   have hc1:choose (forward ⟨E,[[]]⟩).s < (forward ⟨E,[[]]⟩).out.length:=by rw [hFo,<- hFp];exact choose_lt' hF
   rw [ykm hc1,zxp 61 (zkq hF) (by rw [ykn hc1,ygf hF,hFo,hFp])]
   exact ⟨rfl,zmo most 0 _⟩
 . rw [hp];exact ⟨rfl,rfl⟩
theorem zxq (most path:Int):∀ (n:Nat) (l:List Chunk),(packN most path n l).length <= n
 | 0,_=>Nat.le_refl _
 | n+1,l=>by
  unfold packN
  split
  . exact Nat.zero_le _
  . have h:=zxq most path n (l.drop (room1 most l).toNat)
    have h1:(pack1 most path l).length <= 1:=by unfold pack1;split <;> simp
    rw [List.length_append];omega
theorem yrm (most:Int) (a c:List Chunk):zay most 0 ([a,c].take 0)++packN most 0 a.length a=zay most 0 ([a,c].take (0+1)):=by simp [zay]
theorem yrn (most:Int) (a c:List Chunk):zay most 0 ([a,c].take 1)++packN most 1 c.length c=zay most 0 ([a,c].take (1+1)):=by simp [zay]
theorem yku (most:Int) (a c:List Chunk):(zay most 0 ([a,c].take 0)).length=0:=rfl
theorem ykv (most:Int) (a c:List Chunk):(zay most 0 ([a,c].take 1)).length <= a.length:=by
 have:=zxq most 0 a.length a
 simpa [zay] using this
end Snd
end Go.HL
namespace Go.HL
open Go.Proofs
namespace Snd
open Ser
set_option maxHeartbeats 32000000
set_option maxRecDepth 100000
set_option linter.unusedSimpArgs false
theorem zxr (t:Sender) (came life:Int):FunOK Tryz.prog 98 [i64 came,i64 life,.ptr 1000 0] (lk .free [(1000,scS t)]) (hbool (old t.clock came life)) (lk .free [(1000,scS t)]):=by
 refine zal mixed Tryz.func98 (by decide) [1000] zbk ?_
 conv=>whnf
 by_cases c1:life > 0
 . refine sT ?_
   refine sR ?_
   try refine sT ?_
   (exact zbz [(1000,some 1000)] (by repeat' (first | exact z0 | refine z1 ?_ | refine ⟨?_,?_⟩ | ((simp [old,c1];rfl)) | ((simp [old,c1])) | exact z2)))
 . refine sN ?_
   try refine sN ?_
   (exact zbz [(1000,some 1000)] (by repeat' (first | exact z0 | refine z1 ?_ | refine ⟨?_,?_⟩ | ((simp [old,c1];rfl)) | ((simp [old,c1])) | exact z2)))
abbrev rpS (t:Sender):List (Nat × HSlot):=[(1,scS t),(2,sc0)]
abbrev puH (E:Sender) (p:Pump):List (Nat × HSlot):=[(1,scS E),(2,sc0),(96,pdP p.s 900 901),(900,rowK (nth0 p.out)),(901,rowK (nth1 p.out))]
theorem zub:∀ {b:List Sent} {z:Int} {sk:List Skip},(∀ (i:Nat) s,b[i]?=some s -> s.number=z+1+i) -> z <= (Sco.zdd z sk b).1
 | [],z,sk,_=>Int.le_refl _
 | s :: r,z,sk,h=>by
  have h0:=h 0 s rfl
  have hr:∀ (i:Nat) t,r[i]?=some t -> t.number=s.number+1+i:=by
   intro i t ht
   have:=h (i+1) t (by simpa using ht)
   omega
  rw [Sco.zdd]
  split
  . exact Int.le_refl _
  . split
    . split
      . exact Int.le_refl _
      . have:=zub (sk:=Sco.skip s.chunk sk) hr;omega
    . have:=zub (sk:=sk) hr;omega
theorem zgx {N:Nat} (s:Sender) (hS:SI N s) (hL:SL s):FunOK Tryz.prog 40 [s.hv] zad (.tup [(pump s).1.hv,.p (.sl 3 ((pump s).2.map Packet.row))]) zad:=by
 have hP:pump s=(woken (nexts 61 (again (forward ⟨expire s,List.replicate s.paths.length []⟩))).s,zay s.config.packet 0 (nexts 61 (again (forward ⟨expire s,List.replicate s.paths.length []⟩))).out):=rfl
 generalize pump s=P at hP ⊢
 have hsq:=hS.fit.queue
 refine zai mixed Tryz.func40 (by decide) ?_
 conv=>whnf
 refine ⟨{ x:(List Queued × List Queued) × Sender // s.queue=x.1.1++x.1.2 /\ x.1.1.foldl expQ s=x.2 /\ SI N x.2 /\ x.2.fates.length=s.fates.length },
  fun | ⟨((A,B),t),_⟩=>hs 331 [(1,.ptr 1 0),(2,.ptr 2 0),(4,.clo 98 [.ptr 1 0]),(27,Sch.qs s.queue),(28,i64 s.queue.length),(29,i64 A.length)] (rpS t),fun x=>x.1.1.2.length,⟨(([],s.queue),s),rfl,rfl,hS,rfl⟩,?_,?_⟩
 . exact (hle_Q [(1,some 1),(2,some 2)])
 rintro ⟨⟨⟨A,B⟩,t⟩,k1,k2,k3,k4⟩
 dsimp only at k1 k2 k3 k4
 refine zbl fun Q hQ=>?_
 conv=>whnf
 cases B with
 | cons m B =>
  have hz:=zat k1
  have hnext:(A++[m]).foldl expQ s=expQ t m:=by rw [List.foldl_append,k2];rfl
  have hq:=hS.queue m (zfp k1)
  have hm0:=hq.id0
  have hm1:=hq.id1
  obtain ⟨id,hid⟩:∃ k:Nat,m.id=k:=⟨m.id.toNat,by omega⟩
  have kn:=zzn k3 (m:=m) (by omega)
  refine sT ?_
  refine zaj k1 rfl ?_;conv=>whnf
  (refine zag [] [(1000,1)] [] ?_;(conv=>whnf);refine dG (zxr t m.came m.message.life) ?_)
  cases ho:old t.clock m.came m.message.life with
  | true =>
   rw [expQ,if_pos ho] at hnext kn
   have pg:=zqv t id k3 (by omega)
   rw [<- hid] at pg
   conv=>whnf
   (try (refine hcut.go ?_;conv=>whnf))
   (refine cP ?_;refine dL pg ?_)
   refine sF ?_
   refine hQ _ _ ?_;conv=>whnf
   exact ⟨⟨((A++[m],B),giveS t m.id),zae k1,hnext,kn.1,kn.2.trans k4⟩,(hle_Q [(1,some 1),(2,some 2)]),by simp⟩
  | false =>
   rw [expQ,if_neg (by rw [ho];decide)] at hnext
   conv=>whnf
   (try (refine hcut.go ?_;conv=>whnf))
   refine sF ?_
   refine hQ _ _ ?_;conv=>whnf
   exact ⟨⟨((A++[m],B),t),zae k1,hnext,k3,k4⟩,(hle_Q [(1,some 1),(2,some 2)]),by simp⟩
 | nil =>
 have hz:=zaz k1
 rw [List.append_nil] at k1
 rw [<- k1] at k2
 have hE2:t.out.foldl expX t=expire s:=by rw [expire,k2]
 have hES:=(zid hS).1
 have hEL:=zxm hL
 have hER:=(zwc hS.pf).2
 generalize expire s=E at hE2 hES hEL hER hP
 refine sN ?_
 refine hQ _ _ ?_;conv=>whnf
 refine ⟨{ x:(List Sent × List Sent) × Sender // t.out=x.1.1++x.1.2 /\ x.1.1.foldl expX t=x.2 /\ SI N x.2 /\ x.2.fates.length=t.fates.length },
  fun | ⟨((A,B),u),_⟩=>hs 331 [(1,.ptr 1 0),(2,.ptr 2 0),(4,.clo 98 [.ptr 1 0]),(46,Sco.sents t.out),(47,i64 t.out.length),(48,i64 A.length)] (rpS u),fun x=>x.1.1.2.length,⟨(([],t.out),t),rfl,rfl,k3,rfl⟩,?_,?_⟩
 . exact (hle_Q [(1,some 1),(2,some 2)])
 have g4:=k3.out
 have hto:=k3.fit.out.len
 clear k4 k2 k1 hQ Q
 rintro ⟨⟨⟨A,B⟩,u⟩,k1,k2,k3,k4⟩
 dsimp only at k1 k2 k3 k4
 refine zbl fun Q hQ=>?_
 conv=>whnf
 cases B with
 | cons x B =>
  have hz:=zat k1
  have hnext:(A++[x]).foldl expX t=expX u x:=by rw [List.foldl_append,k2];rfl
  have hm:=g4 x (zfp k1)
  have hm0:=hm.id0
  have hm1:=hm.id1
  obtain ⟨id,hid⟩:∃ k:Nat,x.id=k:=⟨x.id.toNat,by omega⟩
  have kn:=zzo k3 (m:=x) (by omega)
  have hidl:id < u.fates.length:=by omega
  have pg:=zqv u id k3 hidl
  rw [<- hid] at pg
  obtain ⟨f,hf⟩:∃ f,u.fates[id]?=some f:=⟨_,List.getElem?_eq_getElem hidl⟩
  have hdue:dueX u x=(decide (f=1) && (decide (x.state ≠ 2) && (old u.clock x.came x.life || (decide (x.state=3) && (decide (x.tries > 0) && decide (x.times > x.tries)))))):=by
   unfold dueX
   rw [hid,Int.toNat_natCast,hf];rfl
  refine sT ?_
  refine zaj k1 rfl ?_;conv=>whnf
  refine zah hf (by omega) ?_;conv=>whnf
  by_cases d1:f=1
  case neg =>
   refine zab ?_ ?_
   . simpa using d1
   conv=>whnf
   (try (refine hcut.go ?_;conv=>whnf))
   refine sF ?_
   refine hQ _ _ ?_;conv=>whnf
   rw [expX,if_neg (by rw [hdue];simp [d1])] at hnext
   exact ⟨⟨((A++[x],B),u),zae k1,hnext,k3,k4⟩,(hle_Q [(1,some 1),(2,some 2)]),by simp⟩
  refine zac ?_ ?_
  . simpa using d1
  conv=>whnf
  by_cases d2:x.state=2
  case pos =>
   refine zab ?_ ?_
   . simpa using d2
   conv=>whnf
   (try (refine hcut.go ?_;conv=>whnf))
   refine sF ?_
   refine hQ _ _ ?_;conv=>whnf
   rw [expX,if_neg (by rw [hdue];simp [d1,d2])] at hnext
   exact ⟨⟨((A++[x],B),u),zae k1,hnext,k3,k4⟩,(hle_Q [(1,some 1),(2,some 2)]),by simp⟩
  refine zac ?_ ?_
  . simpa using d2
  conv=>whnf
  (refine zag [] [(1000,1)] [] ?_;(conv=>whnf);refine dG (zxr u x.came x.life) ?_)
  cases d3:old u.clock x.came x.life with
  | true =>
   conv=>whnf
   (try (refine hcut.go ?_;conv=>whnf))
   (refine cP ?_;refine dL pg ?_)
   refine sF ?_
   refine hQ _ _ ?_;conv=>whnf
   rw [expX,if_pos (by rw [hdue];simp [d1,d2,d3])] at hnext kn
   exact ⟨⟨((A++[x],B),giveS u x.id),zae k1,hnext,kn.1,kn.2.trans k4⟩,(hle_Q [(1,some 1),(2,some 2)]),by simp⟩
  | false =>
  conv=>whnf
  by_cases d4:x.state=3
  case neg =>
   refine zab ?_ ?_
   . simpa using d4
   conv=>whnf
   (try (refine hcut.go ?_;conv=>whnf))
   refine sF ?_
   refine hQ _ _ ?_;conv=>whnf
   rw [expX,if_neg (by rw [hdue];simp [d1,d2,d3,d4])] at hnext
   exact ⟨⟨((A++[x],B),u),zae k1,hnext,k3,k4⟩,(hle_Q [(1,some 1),(2,some 2)]),by simp⟩
  refine zac ?_ ?_
  . simpa using d4
  conv=>whnf
  by_cases d5:x.tries > 0
  case neg =>
   refine zab ?_ ?_
   . simpa using d5
   conv=>whnf
   (try (refine hcut.go ?_;conv=>whnf))
   refine sF ?_
   refine hQ _ _ ?_;conv=>whnf
   rw [expX,if_neg (by rw [hdue];simp [d1,d2,d3,d4,d5])] at hnext
   exact ⟨⟨((A++[x],B),u),zae k1,hnext,k3,k4⟩,(hle_Q [(1,some 1),(2,some 2)]),by simp⟩
  refine zac ?_ ?_
  . simpa using d5
  conv=>whnf
  by_cases d6:x.times > x.tries
  case neg =>
   refine zab ?_ ?_
   . simpa using d6
   conv=>whnf
   (try (refine hcut.go ?_;conv=>whnf))
   refine sF ?_
   refine hQ _ _ ?_;conv=>whnf
   rw [expX,if_neg (by rw [hdue];simp [d1,d2,d3,d4,d5,d6])] at hnext
   exact ⟨⟨((A++[x],B),u),zae k1,hnext,k3,k4⟩,(hle_Q [(1,some 1),(2,some 2)]),by simp⟩
  refine zac ?_ ?_
  . simpa using d6
  conv=>whnf
  (try (refine hcut.go ?_;conv=>whnf))
  (refine cP ?_;refine dL pg ?_)
  refine sF ?_
  refine hQ _ _ ?_;conv=>whnf
  rw [expX,if_pos (by rw [hdue];simp [d1,d2,d3,d4,d5,d6])] at hnext kn
  exact ⟨⟨((A++[x],B),giveS u x.id),zae k1,hnext,kn.1,kn.2.trans k4⟩,(hle_Q [(1,some 1),(2,some 2)]),by simp⟩
 | nil =>
 have hz:=zaz k1
 rw [List.append_nil] at k1
 rw [<- k1,hE2] at k2
 subst k2
 refine sN ?_
 refine hQ _ _ ?_;conv=>whnf
 have hfe:=hES.fit
 (refine cP ?_;refine dL (Sco.zhh E.out E.cum hfe.out.len) ?_)
 refine sDm ?_
 have hpl:1 <= E.paths.length /\ E.paths.length <= 2:=by have:=hES.npaths;have:=zbv hES.cfg;omega
 obtain ⟨hch,hch2⟩:=zcc (s:=E) (by omega)
 obtain ⟨w,hw⟩:∃ w,E.paths[choose E]?=some w:=⟨_,List.getElem?_eq_getElem hch2⟩
 have hc01:choose E=0 \/ choose E=1:=by omega
 have hge:=zub (sk:=[]) hES.nums
 have pc:=Paths.zgb E.paths (by omega)
 rw [hch] at pc
 generalize hF:forward ⟨E,[[],[]]⟩=F
 refine hcut.meet PUnit (fun _=>hs 331 [(1,.ptr 1 0),(2,.ptr 2 0),(9,.ptr 96 0)] (puH E F)) ?_ ?_
 . conv=>whnf
   by_cases f1:E.forward=true
   case neg =>
    rw [zml (.inl (by simpa using f1))] at hF
    subst hF
    refine zab (by simpa using f1) ?_;conv=>whnf
    exact ⟨⟨⟩,(hle_Q [(1,some 1),(2,some 2),(96,some 96),(900,none),(901,none)])⟩
   refine zac f1 ?_;conv=>whnf
   by_cases f2:(Sco.point E.out E.cum).1 > E.cum
   case neg =>
    rw [zml (.inr (by unfold Sco.point at f2 ⊢;omega))] at hF
    subst hF
    refine zab (decide_eq_false f2) ?_;conv=>whnf
    exact ⟨⟨⟩,(hle_Q [(1,some 1),(2,some 2),(96,some 96),(900,none),(901,none)])⟩
   refine zac (decide_eq_true f2) ?_;conv=>whnf
   have fy:¬ (E.forward=false \/ (Sco.point E.out E.cum).1=E.cum):=by rintro (h | h);rw [f1] at h;cases h;omega
   rcases hc01 with hc | hc
   . rw [zop fy hw (l:=[]) (by rw [hc];rfl)] at hF
     rw [hc] at pc hw hF
     subst hF
     (refine cL ?_;refine dL pc ?_)
     refine ⟨0,rfl,by decide,?_⟩;conv=>whnf
     (refine cL ?_;refine dL (zbr _) ?_)
     refine zaa (c:=(1:Nat) * 128 <= 140737488355328) (by decide) ?_;conv=>whnf
     refine ⟨0,rfl,by decide,?_⟩;conv=>whnf
     refine sD ?_
     refine zaa (c:=(([]:List (List PV)).length+(E.paths.map Path.row).length) * 56 <= 140737488355328) (by simp;omega) ?_;conv=>whnf
     (try (refine hcut.go ?_;conv=>whnf))
     have hl:=(List.getElem?_eq_some_iff.1 hw).1
     refine sOm ?_
     refine zah (l:=E.paths) hw rfl ?_;conv=>whnf
     by_cases c3:w.alarm=0
     case neg =>
      have hr:([]:List (List PV))++E.paths.map Path.row=(E.paths.set 0 (alarm E w)).map Path.row:=by rw [zkl c3,zhf hw];rfl
      refine zab (beq_eq_false_iff_ne.2 c3) ?_;conv=>whnf
      exact ⟨⟨⟩,(hle_Z [158] [(1,some 1),(2,some 2),(96,some 96),(900,some 148),(901,none)] (by repeat' (first | exact z0 | refine z1 ?_ | refine ⟨?_,?_⟩ | ((exact congrArg (fun r=>HSlot.live (.cells 148 (pdC (fwdS E 0 w) (Sch.qs E.queue) (ints E.sched.had) (Sco.sents E.out) (.p (.sl 7 r)) (ints E.mids) (ints E.fates) (.own 148) hnil))) hr)) | exact z2)))⟩
     have hr:(([]:List (List PV))++E.paths.map Path.row).set 0 ({ w with alarm:=W (E.clock+w.wait) }:Path).row=(E.paths.set 0 (alarm E w)).map Path.row:=by rw [zhz c3,List.map_set];rfl
     refine zac (beq_iff_eq.2 c3) ?_;conv=>whnf
     refine sOm ?_
     refine zah (l:=E.paths) hw rfl ?_;conv=>whnf
     refine sRm ?_
     refine sOm ?_
     refine zah (l:=E.paths) hw rfl ?_;conv=>whnf
     refine sDm ?_
     exact ⟨⟨⟩,(hle_Z [158] [(1,some 1),(2,some 2),(96,some 96),(900,some 148),(901,none)] (by repeat' (first | exact z0 | refine z1 ?_ | refine ⟨?_,?_⟩ | ((exact congrArg (fun r=>HSlot.live (.cells 148 (pdC (fwdS E 0 w) (Sch.qs E.queue) (ints E.sched.had) (Sco.sents E.out) (.p (.sl 7 r)) (ints E.mids) (ints E.fates) (.own 148) hnil))) hr)) | exact z2)))⟩
   . rw [zop fy hw (l:=[]) (by rw [hc];rfl)] at hF
     rw [hc] at pc hw hF
     subst hF
     (refine cL ?_;refine dL pc ?_)
     refine ⟨1,rfl,by decide,?_⟩;conv=>whnf
     (refine cL ?_;refine dL (zbr _) ?_)
     refine zaa (c:=(1:Nat) * 128 <= 140737488355328) (by decide) ?_;conv=>whnf
     refine ⟨1,rfl,by decide,?_⟩;conv=>whnf
     refine sD ?_
     refine zaa (c:=(([]:List (List PV)).length+(E.paths.map Path.row).length) * 56 <= 140737488355328) (by simp;omega) ?_;conv=>whnf
     (try (refine hcut.go ?_;conv=>whnf))
     have hl:=(List.getElem?_eq_some_iff.1 hw).1
     refine sOm ?_
     refine zah (l:=E.paths) hw rfl ?_;conv=>whnf
     by_cases c3:w.alarm=0
     case neg =>
      have hr:([]:List (List PV))++E.paths.map Path.row=(E.paths.set 1 (alarm E w)).map Path.row:=by rw [zkl c3,zhf hw];rfl
      refine zab (beq_eq_false_iff_ne.2 c3) ?_;conv=>whnf
      exact ⟨⟨⟩,(hle_Z [158] [(1,some 1),(2,some 2),(96,some 96),(900,none),(901,some 148)] (by repeat' (first | exact z0 | refine z1 ?_ | refine ⟨?_,?_⟩ | ((exact congrArg (fun r=>HSlot.live (.cells 148 (pdC (fwdS E 1 w) (Sch.qs E.queue) (ints E.sched.had) (Sco.sents E.out) (.p (.sl 7 r)) (ints E.mids) (ints E.fates) hnil (.own 148)))) hr)) | exact z2)))⟩
     have hr:(([]:List (List PV))++E.paths.map Path.row).set 1 ({ w with alarm:=W (E.clock+w.wait) }:Path).row=(E.paths.set 1 (alarm E w)).map Path.row:=by rw [zhz c3,List.map_set];rfl
     refine zac (beq_iff_eq.2 c3) ?_;conv=>whnf
     refine sOm ?_
     refine zah (l:=E.paths) hw rfl ?_;conv=>whnf
     refine sRm ?_
     refine sOm ?_
     refine zah (l:=E.paths) hw rfl ?_;conv=>whnf
     refine sDm ?_
     exact ⟨⟨⟩,(hle_Z [158] [(1,some 1),(2,some 2),(96,some 96),(900,none),(901,some 148)] (by repeat' (first | exact z0 | refine z1 ?_ | refine ⟨?_,?_⟩ | ((exact congrArg (fun r=>HSlot.live (.cells 148 (pdC (fwdS E 1 w) (Sch.qs E.queue) (ints E.sched.had) (Sco.sents E.out) (.p (.sl 7 r)) (ints E.mids) (ints E.fates) hnil (.own 148)))) hr)) | exact z2)))⟩
 rintro ⟨⟩
 have hFs:SI N F.s:=hF ▸ zes hES
 have hFL:SL F.s:=by unfold SL;rw [<- hF,zkv];exact hEL
 have hFo:F.out.length=2:=by rw [<- hF];unfold forward;split <;> simp [zdo]
 have hFp:F.s.paths.length=E.paths.length:=by rw [<- hF];unfold forward;split <;> simp [zdo]
 have hF01:(nth0 F.out).length <= 1 /\ (nth1 F.out).length <= 1:=by
  rw [<- hF];unfold forward;split
  . simp [nth0,nth1]
  . rcases hc01 with hc | hc <;> simp [hc,nth0,nth1,setAt]
 clear pc hge hw hc01 hch hch2 w
 obtain ⟨hch,hch2⟩:=zcc (s:=F.s) (by omega)
 have pc:=Paths.zgb F.s.paths (by omega)
 rw [hch] at pc
 have hc01:choose F.s=0 \/ choose F.s=1:=by omega
 generalize hcf:choose F.s=cf at pc hch2 hc01
 have hFN:=hFs.len
 have hNN:=hFs.few
 have hFl:=hFs.fit.out.len
 conv=>whnf
 (refine cL ?_;refine dL pc ?_)
 refine ⟨{ x:Nat × Pump // x.1 <= F.s.out.length /\ (List.range x.1).foldl (zbq (cf)) F=x.2 /\ SI N x.2.s /\ x.2.out.length=2 /\ x.2.s.paths.length=E.paths.length /\ x.2.s.out.length=F.s.out.length /\ (nth0 x.2.out).length <= 1+x.1 /\ (nth1 x.2.out).length <= 1+x.1 /\ SL x.2.s },fun | ⟨(i,p),_⟩=>hs 331 [(1,.ptr 1 0),(2,.ptr 2 0),(9,.ptr 96 0),(14,i64 (cf)),(196,i64 F.s.out.length),(197,i64 i)] (puH E p),fun x=>F.s.out.length - x.1.1,⟨(0,F),Nat.zero_le _,rfl,hFs,hFo,hFp,rfl,hF01.1,hF01.2,hFL⟩,?_,?_⟩
 . exact (hle_X [(1,some 1),(2,some 2),(96,some 96),(900,some 900),(901,some 901)] (by repeat' (first | exact z0 | refine z1 ?_ | refine ⟨?_,?_⟩ | ((exact zbf (by simp))) | exact z2)))
 rintro ⟨⟨i,p⟩,k1,k2,k3,k4,k5,k6,k7,k8,k9⟩
 dsimp only at k1 k2 k3 k4 k5 k6 k7 k8 k9
 refine zbl fun Q hQ=>?_
 conv=>whnf
 by_cases hi:i < F.s.out.length
 case pos =>
  obtain ⟨x,hx⟩:∃ x,p.s.out[i]?=some x:=⟨_,List.getElem?_eq_getElem (by omega)⟩
  obtain ⟨w,hw⟩:∃ w,p.s.paths[cf]?=some w:=⟨_,List.getElem?_eq_getElem (by omega)⟩
  have hst:=zfk (zbq (cf)) F i
  rw [k2] at hst
  obtain ⟨ps,po⟩:=p
  obtain ⟨a,c,hac⟩:∃ a c,po=[a,c]:=⟨_,_,yiq k4⟩
  subst hac
  have k7:a.length <= 1+i:=k7
  have k8:c.length <= 1+i:=k8
  dsimp only at hx hw k3 k5 k6 hst
  have hno:=zkm (o:=[a,c]) (c:=cf) hx hw
  have hyes:=fun l (hl:[a,c][cf]?=some l)=>zia (o:=[a,c]) (c:=cf) (l:=l) hx hw hl
  refine sT ?_
  refine zah hx rfl ?_;conv=>whnf
  by_cases d1:x.state=3
  case neg =>
   rw [hno fun h=>d1 h.1] at hst
   refine zab (beq_eq_false_iff_ne.2 d1) ?_;conv=>whnf
   (try (refine hcut.go ?_;conv=>whnf))
   refine sF ?_
   refine hQ _ _ ?_;conv=>whnf
   exact ⟨⟨(i+1,⟨ps,[a,c]⟩),by dsimp only;omega,hst,k3,rfl,k5,k6,by show a.length <= _;dsimp only;omega,by show c.length <= _;dsimp only;omega,k9⟩,(hle_Q [(1,some 1),(2,some 2),(96,some 96),(900,some 900),(901,some 901)]),by dsimp only;omega⟩
  refine zac (beq_iff_eq.2 d1) ?_;conv=>whnf
  have po:=zqx ps a c (cf) w hw (by omega)
  rw [show opened ps (cf)=decide (w.flight < w.window) by rw [opened,hw]] at po
  by_cases d2:w.flight < w.window
  case neg =>
   rw [hno fun h=>d2 h.2] at hst
   rw [decide_eq_false d2] at po
   (refine zag [] [(1000,96),(1007,900),(1008,901)] [] ?_;(conv=>whnf);refine dG po ?_)
   (try (refine hcut.go ?_;conv=>whnf))
   refine sF ?_
   refine hQ _ _ ?_;conv=>whnf
   exact ⟨⟨(i+1,⟨ps,[a,c]⟩),by dsimp only;omega,hst,k3,rfl,k5,k6,by show a.length <= _;dsimp only;omega,by show c.length <= _;dsimp only;omega,k9⟩,(hle_Q [(1,some 1),(2,some 2),(96,some 96),(900,some 900),(901,some 901)]),by dsimp only;omega⟩
  rw [decide_eq_true d2] at po
  (refine zag [] [(1000,96),(1007,900),(1008,901)] [] ?_;(conv=>whnf);refine dG po ?_)
  have hyes:=fun l hl=>hyes l hl ⟨d1,d2⟩
  have hn:=zif (p:=⟨ps,[a,c]⟩) k3 (path:=cf) (by show cf < ps.paths.length;omega) i
  rcases hc01 with rfl | rfl
  . have hy:=hyes a rfl
    have hn1:=hn.1
    have hn2:=hn.2
    rw [hy] at hst hn1 hn2
    have hfe:=zjs (p:=⟨ps,[a,c]⟩) (N:=N) (i:=i) (path:=0) (by rw [zqp hx hw (l:=a) rfl];exact hn1) hx hw
    rw [zqp hx hw (l:=a) rfl] at hfe
    have pf:=zqy false ps (flyS ps i 0 x w) a c i x hx hn1.fit.out (by omega) hfe (by omega)
    (refine zag [] [(1000,96),(1007,900),(1008,901)] [(0,970)] ?_;(conv=>whnf);refine dG pf ?_)
    refine sF ?_
    refine hQ _ _ ?_;conv=>whnf
    exact ⟨⟨(i+1,⟨flyS ps i 0 x w,[a++[x.chunk],c]⟩),by dsimp only;omega,hst,hn1,rfl,hn2.trans k5,by show (ps.out.set i _).length=_;rw [List.length_set];exact k6,by show (a++[x.chunk]).length <= 1+(i+1);rw [List.length_append];simp only [List.length_cons,List.length_nil];omega,by show c.length <= 1+(i+1);omega,k9⟩,(hle_Q [(1,some 1),(2,some 2),(96,some 96),(900,some 970),(901,some 901)]),by dsimp only;omega⟩
  . have hy:=hyes c rfl
    have hn1:=hn.1
    have hn2:=hn.2
    rw [hy] at hst hn1 hn2
    have hfe:=zjs (p:=⟨ps,[a,c]⟩) (N:=N) (i:=i) (path:=1) (by rw [zqp hx hw (l:=c) rfl];exact hn1) hx hw
    rw [zqp hx hw (l:=c) rfl] at hfe
    have pf:=zqz false ps (flyS ps i 1 x w) a c i x hx hn1.fit.out (by omega) hfe (by omega)
    (refine zag [] [(1000,96),(1007,900),(1008,901)] [(0,970)] ?_;(conv=>whnf);refine dG pf ?_)
    refine sF ?_
    refine hQ _ _ ?_;conv=>whnf
    exact ⟨⟨(i+1,⟨flyS ps i 1 x w,[a,c++[x.chunk]]⟩),by dsimp only;omega,hst,hn1,rfl,hn2.trans k5,by show (ps.out.set i _).length=_;rw [List.length_set];exact k6,by show a.length <= 1+(i+1);omega,by show (c++[x.chunk]).length <= 1+(i+1);rw [List.length_append];simp only [List.length_cons,List.length_nil];omega,k9⟩,(hle_Q [(1,some 1),(2,some 2),(96,some 96),(900,some 900),(901,some 970)]),by dsimp only;omega⟩
 have hin:i=F.s.out.length:=by omega
 subst hin
 have hag:again F=p:=by unfold again;rw [hcf];exact k2
 refine sN ?_
 refine hQ _ _ ?_;conv=>whnf
 generalize hN61:nexts 61 p=R
 refine ⟨{ x:Nat × Pump // nexts x.1 x.2=R /\ SI N x.2.s /\ x.2.out.length=2 /\ x.2.s.paths.length=E.paths.length /\ 61 <= x.1+x.2.s.out.length /\ x.1 <= 61 /\ (nth0 x.2.out).length+x.1 <= 62+F.s.out.length /\ (nth1 x.2.out).length+x.1 <= 62+F.s.out.length /\ SL x.2.s },fun | ⟨(j,p),_⟩=>hs 331 [(1,.ptr 1 0),(2,.ptr 2 0),(9,.ptr 96 0)] (puH E p),fun x=>x.1.1,⟨(61,p),hN61,k3,k4,k5,by dsimp only;omega,by dsimp only;omega,by dsimp only;omega,by dsimp only;omega,k9⟩,?_,?_⟩
 . exact (hle_Q [(1,some 1),(2,some 2),(96,some 96),(900,some 900),(901,some 901)])
 clear hQ Q k1 k2 k3 k4 k5 k6 k7 k8 k9 hi
 rintro ⟨⟨j,p'⟩,k1,k3,k4,k5,k6,k6',k7,k8,k9⟩
 dsimp only at k1 k3 k4 k5 k6 k6' k7 k8 k9
 refine zbl fun Q hQ=>?_
 conv=>whnf
 obtain ⟨ps,po⟩:=p'
 obtain ⟨a,c,hac⟩:∃ a c,po=[a,c]:=⟨_,_,yiq k4⟩
 subst hac
 have k7:a.length+j <= 62+F.s.out.length:=k7
 have k8:c.length+j <= 62+F.s.out.length:=k8
 dsimp only at k3 k5 k6 k9
 have pn:=zox ps a c k3.pf.nfit (fun _=>k9) (by omega) (by omega) fun k m hm=>by
  have hc:=ycq k3 hm
  have hx:(cutS ps k m).out[ps.out.length]?=some (⟨ps.next,m.id,0,0,0,0,m.came,m.message.life,m.message.tries,cut ps m (many ps m)⟩:Sent):=by
   show (ps.out++[_])[ps.out.length]?=_
   rw [List.getElem?_append_right (Nat.le_refl _)];simp
  have hcl:=choose_lt' k3
  obtain ⟨w,hw⟩:∃ w,ps.paths[choose ps]?=some w:=⟨_,List.getElem?_eq_getElem hcl⟩
  have hfs:SI N (fly ⟨cutS ps k m,[a,c]⟩ ps.out.length (choose ps)).s:=yjd (p:=⟨cutS ps k m,[a,c]⟩) hc hx (by show (0:Int) ≠ 1;decide) hcl
  have hff:=zjs (p:=⟨cutS ps k m,[a,c]⟩) hfs hx hw
  refine ⟨?_,hff⟩
  have h:=hfs.fit.out
  rw [<- hff] at h
  exact h
 cases hnx:next ⟨ps,[a,c]⟩ with
 | some q =>
  rw [show nx ps [a,c]=(q,true) by rw [nx,hnx]] at pn
  obtain ⟨t1,t2,t3,t4,t5,t6⟩:=yns hnx
  have hqs:=zjr (p:=⟨ps,[a,c]⟩) k3 hnx
  have hql:=ykq (p:=⟨ps,[a,c]⟩) k3 hnx
  obtain ⟨j,rfl⟩:∃ j',j=j'+1:=⟨j - 1,by omega⟩
  rw [nexts,hnx] at k1
  (refine zag [] [(1000,96),(1007,900),(1008,901)] [(0,980),(1,981)] ?_;(conv=>whnf);refine dG pn ?_)
  refine hQ _ _ ?_;conv=>whnf
  exact ⟨⟨(j,q),k1,hqs,t2,t3.trans k5,by dsimp only;omega,by dsimp only;omega,by dsimp only;omega,by dsimp only;omega,hql⟩,(hle_Q [(1,some 1),(2,some 2),(96,some 96),(900,some 980),(901,some 981)]),by dsimp only;omega⟩
 | none =>
 rw [show nx ps [a,c]=(⟨ps,[a,c]⟩,false) by rw [nx,hnx]] at pn
 rw [zls hnx] at k1
 (refine zag [] [(1000,96),(1007,900),(1008,901)] [(0,980),(1,981)] ?_;(conv=>whnf);refine dG pn ?_)
 refine hQ _ _ ?_;conv=>whnf
 subst k1
 have hout:=k3.fit.out.len
 clear hQ Q pn
 (refine cP ?_;refine dL (Sco.zhh ps.out ps.cum hout) ?_)
 refine sD ?_
 generalize hZ:(Sco.point ps.out ps.cum).1=Z
 refine ⟨{ x:List Path × List Path // ps.paths=x.1++x.2 },fun | ⟨(A,B),_⟩=>hs 331 [(1,.ptr 1 0),(2,.ptr 2 0),(9,.ptr 96 0),(10,i64 Z),(16,.own 910),(240,pths ps.paths),(241,i64 ps.paths.length),(242,i64 A.length)] ((910,rowW (A.map (wake ps Z))) :: puH E ⟨ps,[a,c]⟩),fun x=>x.1.2.length,⟨([],ps.paths),rfl⟩,?_,?_⟩
 . exact (hle_Q [(1,some 1),(2,some 2),(96,some 96),(900,some 980),(901,some 981),(910,none)])
 rintro ⟨⟨A,B⟩,h⟩
 dsimp only at h
 have hpql:ps.paths.length=A.length+B.length:=by rw [h];simp
 refine zbl fun Q hQ=>?_
 conv=>whnf
 cases B with
 | cons x B =>
  have hz:=zat h
  refine sT ?_
  refine zaj h rfl ?_;conv=>whnf
  (try (refine hcut.go ?_;conv=>whnf))
  by_cases f1:x.flight > 0
  case pos =>
   refine zac (decide_eq_true f1) ?_;conv=>whnf
   by_cases f2:x.alarm=0
   case pos =>
    have hwk:wake ps Z x={ x with alarm:=W (ps.clock+x.wait) }:=if_pos ⟨f1,f2⟩
    refine zac (beq_iff_eq.2 f2) ?_;conv=>whnf
    refine sR ?_
    refine sD ?_
    refine zaa (c:=(((A.map (wake ps Z)).map Path.row).length+1) * 56 <= 140737488355328) (by rw [List.length_map,List.length_map];omega) ?_;conv=>whnf
    refine sF ?_
    refine hQ _ _ ?_;conv=>whnf
    exact ⟨⟨(A++[x],B),zae h⟩,(hle_X [(1,some 1),(2,some 2),(96,some 96),(900,some 900),(901,some 901),(910,some 279)] (by repeat' (first | exact z0 | refine z1 ?_ | refine ⟨?_,?_⟩ | ((exact zas (f:=Path.row) (by rw [List.map_append];rfl) (by rw [hwk];rfl))) | exact z2))),by simp⟩
   have hwk:wake ps Z x=x:=by unfold wake;rw [if_neg (fun h=>f2 h.2),if_neg (fun h=>by omega)]
   refine zab (beq_eq_false_iff_ne.2 f2) ?_;conv=>whnf
   (try (refine hcut.go ?_;conv=>whnf))
   refine zab (beq_eq_false_iff_ne.2 (by omega)) ?_;conv=>whnf
   (try (refine hcut.go ?_;conv=>whnf))
   refine zaa (c:=(((A.map (wake ps Z)).map Path.row).length+1) * 56 <= 140737488355328) (by rw [List.length_map,List.length_map];omega) ?_;conv=>whnf
   refine sF ?_
   refine hQ _ _ ?_;conv=>whnf
   exact ⟨⟨(A++[x],B),zae h⟩,(hle_X [(1,some 1),(2,some 2),(96,some 96),(900,some 900),(901,some 901),(910,some 279)] (by repeat' (first | exact z0 | refine z1 ?_ | refine ⟨?_,?_⟩ | ((exact zas (f:=Path.row) (by rw [List.map_append];rfl) (by rw [hwk];rfl))) | exact z2))),by simp⟩
  refine zab (decide_eq_false f1) ?_;conv=>whnf
  (try (refine hcut.go ?_;conv=>whnf))
  by_cases f3:x.flight=0
  case neg =>
   have hwk:wake ps Z x=x:=by unfold wake;rw [if_neg (fun h=>f1 h.1),if_neg (fun h=>f3 h.1)]
   refine zab (beq_eq_false_iff_ne.2 f3) ?_;conv=>whnf
   (try (refine hcut.go ?_;conv=>whnf))
   refine zaa (c:=(((A.map (wake ps Z)).map Path.row).length+1) * 56 <= 140737488355328) (by rw [List.length_map,List.length_map];omega) ?_;conv=>whnf
   refine sF ?_
   refine hQ _ _ ?_;conv=>whnf
   exact ⟨⟨(A++[x],B),zae h⟩,(hle_X [(1,some 1),(2,some 2),(96,some 96),(900,some 900),(901,some 901),(910,some 279)] (by repeat' (first | exact z0 | refine z1 ?_ | refine ⟨?_,?_⟩ | ((exact zas (f:=Path.row) (by rw [List.map_append];rfl) (by rw [hwk];rfl))) | exact z2))),by simp⟩
  refine zac (beq_iff_eq.2 f3) ?_;conv=>whnf
  by_cases f4:Z=ps.cum
  case neg =>
   have hwk:wake ps Z x=x:=by unfold wake;rw [if_neg (fun h=>f1 h.1),if_neg (fun h=>f4 h.2)]
   refine zab (beq_eq_false_iff_ne.2 f4) ?_;conv=>whnf
   (try (refine hcut.go ?_;conv=>whnf))
   refine zaa (c:=(((A.map (wake ps Z)).map Path.row).length+1) * 56 <= 140737488355328) (by rw [List.length_map,List.length_map];omega) ?_;conv=>whnf
   refine sF ?_
   refine hQ _ _ ?_;conv=>whnf
   exact ⟨⟨(A++[x],B),zae h⟩,(hle_X [(1,some 1),(2,some 2),(96,some 96),(900,some 900),(901,some 901),(910,some 279)] (by repeat' (first | exact z0 | refine z1 ?_ | refine ⟨?_,?_⟩ | ((exact zas (f:=Path.row) (by rw [List.map_append];rfl) (by rw [hwk];rfl))) | exact z2))),by simp⟩
  have hwk:wake ps Z x={ x with alarm:=0 }:=by unfold wake;rw [if_neg (fun h=>f1 h.1),if_pos ⟨f3,f4⟩]
  refine zac (beq_iff_eq.2 f4) ?_;conv=>whnf
  (try (refine hcut.go ?_;conv=>whnf))
  refine zaa (c:=(((A.map (wake ps Z)).map Path.row).length+1) * 56 <= 140737488355328) (by rw [List.length_map,List.length_map];omega) ?_;conv=>whnf
  refine sF ?_
  refine hQ _ _ ?_;conv=>whnf
  exact ⟨⟨(A++[x],B),zae h⟩,(hle_X [(1,some 1),(2,some 2),(96,some 96),(900,some 900),(901,some 901),(910,some 279)] (by repeat' (first | exact z0 | refine z1 ?_ | refine ⟨?_,?_⟩ | ((exact zas (f:=Path.row) (by rw [List.map_append];rfl) (by rw [hwk];rfl))) | exact z2))),by simp⟩
 | nil =>
 have hz:=zaz h
 rw [List.append_nil] at h
 subst h
 refine sN ?_
 refine hQ _ _ ?_;conv=>whnf
 clear hQ Q
 have hok0:OK2 ⟨E,[[],[]]⟩:=by
  intro l hl x hx
  simp at hl
  rw [hl] at hx
  cases hx
 have hok:OK2 ⟨ps,[a,c]⟩:=by
  rw [<- hN61,<- hag,<- hF]
  exact zxo 61 (zkq (zes hES)) (ykt (zes hES) (yaf hok0))
 have hP2:P=(woken ps,zay E.config.packet 0 [a,c]):=by
  obtain ⟨e1,e2⟩:=ynu hES (by omega) E.config.packet
  rw [hP,<- hER.paths,<- hER.config,<- e1,<- e2,hF,hag,hN61]
 have hka:∀ x ∈ a,Okc x:=hok a (by simp)
 have hkc:∀ x ∈ c,Okc x:=hok c (by simp)
 subst hZ
 generalize hV:woken ps=V at hP2
 refine ⟨{ k:Nat // k <= 2 },fun | ⟨k,_⟩=>hs 331 [(1,.ptr 1 0),(2,.ptr 2 0),(9,.ptr 96 0),(19,.own 920),(289,.agg [.p (.sl 11 (a.map Chunk.row)),.p (.sl 11 (c.map Chunk.row))]),(290,i64 k)] [(1,scS E),(2,sc0),(96,.live (.cells 148 (pdC V (Sch.qs V.queue) (ints V.sched.had) (Sco.sents V.out) (pths V.paths) (ints V.mids) (ints V.fates) (.p (.sl 11 (a.map Chunk.row))) (.p (.sl 11 (c.map Chunk.row)))))),(920,rowPk (zay E.config.packet 0 ([a,c].take k)))],fun k=>2 - k.1,⟨0,by omega⟩,?_,?_⟩
 . subst hV
   exact (hle_Z [900,901,910] [(1,some 1),(2,some 2),(96,some 96),(920,none)] (by repeat' (first | exact z0 | refine z1 ?_ | refine ⟨?_,?_⟩ | exact z2)))
 rintro ⟨k,hk⟩
 refine zbl fun Q hQ=>?_
 conv=>whnf
 obtain rfl | rfl | rfl:k=0 \/ k=1 \/ k=2:=by omega
 . skip
   (try (refine hcut.go ?_;conv=>whnf))
   refine ⟨0,rfl,by decide,?_⟩;conv=>whnf
   refine ⟨{ x:Nat × List Chunk × List Packet // x.2.2++packN E.config.packet 0 x.1 x.2.1=zay E.config.packet 0 ([a,c].take (0+1)) /\ x.2.1.length <= x.1 /\ (∀ z ∈ x.2.1,Okc z) /\ x.2.2.length+x.2.1.length <= 2 ^ 36 },fun | ⟨(n,L,acc),_⟩=>hs 331 [(1,.ptr 1 0),(2,.ptr 2 0),(9,.ptr 96 0),(19,.own 920),(20,i64 0),(21,.p (.sl 11 (L.map Chunk.row))),(289,.agg [.p (.sl 11 (a.map Chunk.row)),.p (.sl 11 (c.map Chunk.row))]),(290,i64 0)] [(1,scS E),(2,sc0),(96,.live (.cells 148 (pdC V (Sch.qs V.queue) (ints V.sched.had) (Sco.sents V.out) (pths V.paths) (ints V.mids) (ints V.fates) (.p (.sl 11 (a.map Chunk.row))) (.p (.sl 11 (c.map Chunk.row)))))),(920,rowPk acc)],fun x=>x.1.2.1.length,⟨(a.length,a,zay E.config.packet 0 ([a,c].take 0)),yrm E.config.packet a c,Nat.le_refl _,hka,by have:=yku E.config.packet a c;dsimp only at this ⊢;omega⟩,?_,?_⟩
   . exact (hle_Q [(1,some 1),(2,some 2),(96,some 96),(920,some 920)])
   rintro ⟨⟨n,L,acc⟩,i1,i2,i3,i4⟩
   dsimp only at i1 i2 i3 i4
   refine zbl fun Q2 hQ2=>?_
   conv=>whnf
   cases L with
   | nil =>
    rw [zib,List.append_nil] at i1
    refine hQ2 _ _ ?_;conv=>whnf
    refine sF ?_
    refine hQ _ _ ?_;conv=>whnf
    exact ⟨⟨0+1,by omega⟩,(hle_X [(1,some 1),(2,some 2),(96,some 96),(920,some 920)] (by repeat' (first | exact z0 | refine z1 ?_ | refine ⟨?_,?_⟩ | ((exact congrArg rowPk i1)) | exact z2))),by dsimp only;omega⟩
   | cons z L =>
   obtain ⟨r,r1,r2,r3⟩:=zos (most:=E.config.packet) (l:=z :: L) (by simp)
   obtain ⟨n,rfl⟩:∃ n',n=n'+1:=⟨n - 1,by rw [List.length_cons] at i2;omega⟩
   refine sT ?_
   (refine cL ?_;refine dLm (Pck.zvp (z :: L) E.config.packet ⟨by omega,i3⟩) ?_)
   refine hcut.meet PUnit (fun _=>hs 331 [(1,.ptr 1 0),(2,.ptr 2 0),(9,.ptr 96 0),(19,.own 920),(20,i64 0),(21,.p (.sl 11 ((z :: L).map Chunk.row))),(22,i64 (room1 E.config.packet (z :: L))),(289,.agg [.p (.sl 11 (a.map Chunk.row)),.p (.sl 11 (c.map Chunk.row))]),(290,i64 0)] [(1,scS E),(2,sc0),(96,.live (.cells 148 (pdC V (Sch.qs V.queue) (ints V.sched.had) (Sco.sents V.out) (pths V.paths) (ints V.mids) (ints V.fates) (.p (.sl 11 (a.map Chunk.row))) (.p (.sl 11 (c.map Chunk.row)))))),(920,rowPk acc)]) ?_ ?_
   . conv=>whnf
     obtain ⟨rf,g1,g2,-⟩:=Pck.zzd (z :: L) E.config.packet
     by_cases e:Pck.zdq E.config.packet 0 0 (z :: L)=0
     case pos =>
      refine zac (beq_iff_eq.2 e) ?_;conv=>whnf
      exact ⟨⟨⟩,(hle_X [(1,some 1),(2,some 2),(96,some 96),(920,some 920)] (by repeat' (first | exact z0 | refine z1 ?_ | refine ⟨?_,?_⟩ | ((exact zbf (by unfold room1;rw [if_pos (by omega)]))) | exact z2)))⟩
     case neg =>
      refine zab (beq_eq_false_iff_ne.2 e) ?_;conv=>whnf
      exact ⟨⟨⟩,(hle_X [(1,some 1),(2,some 2),(96,some 96),(920,some 920)] (by repeat' (first | exact z0 | refine z1 ?_ | refine ⟨?_,?_⟩ | ((exact zbf (by unfold room1;rw [if_neg (by omega)]))) | exact z2)))⟩
   rintro ⟨⟩
   conv=>whnf
   (try (refine hcut.go ?_;conv=>whnf))
   refine zaa (by rw [List.length_map];omega) ?_;conv=>whnf
   refine zed (l:=z :: L) (by show 0+(room1 E.config.packet (z :: L) - 0).toNat <= (z :: L).length;omega) ?_
   conv=>whnf
   have hrt:(((z :: L).drop 0).take (room1 E.config.packet (z :: L) - 0).toNat)=(z :: L).take r:=by rw [List.drop_zero,r1];simp
   have pb:=Pck.zgc (((z :: L).drop 0).take (room1 E.config.packet (z :: L) - 0).toNat) E.config.packet (by rw [hrt];exact ⟨by rw [List.length_take];omega,fun c hc=>i3 c (List.mem_of_mem_take hc)⟩)
   generalize hK:Pck.pbytes (((z :: L).drop 0).take (room1 E.config.packet (z :: L) - 0).toNat) E.config.packet=K at pb
   rw [hrt] at hK
   obtain ⟨bts,er⟩:=K
   (refine cP ?_;refine dL pb ?_)
   refine sD ?_
   have hpn:packN E.config.packet 0 (n+1) (z :: L)=(if er=0 then [(⟨0,false,bts⟩:Packet)] else [])++packN E.config.packet 0 n ((z :: L).drop r):=by
    rw [packN,if_neg (by simp),pack1,r1,Int.toNat_natCast,hK]
   rw [hpn] at i1
   by_cases e:er=0
   case pos =>
    rw [if_pos e,<- List.append_assoc] at i1
    refine zac (beq_iff_eq.2 e) ?_;conv=>whnf
    refine zaa (c:=((acc.map Packet.row).length+1) * 40 <= 140737488355328) (by rw [List.length_map];omega) ?_;conv=>whnf
    have hr2:r=(room1 E.config.packet (z :: L)).toNat:=by rw [r1,Int.toNat_natCast]
    refine zaa (by rw [List.length_map];omega) ?_;conv=>whnf
    refine zfa (l:=z :: L) (by show (room1 E.config.packet (z :: L)).toNat+(((List.map Chunk.row (z :: L)).length:Int) - room1 E.config.packet (z :: L)).toNat=(z :: L).length;rw [List.length_map];omega) ?_
    conv=>whnf
    refine hQ2 _ _ ?_;conv=>whnf
    exact ⟨⟨(n,(z :: L).drop r,(acc++[⟨0,false,bts⟩])),i1,by dsimp only;rw [List.length_drop];omega,fun x hx=>i3 x (List.mem_of_mem_drop hx),by dsimp only;rw [List.length_drop];simp only [List.length_append,List.length_cons,List.length_nil] at i4 ⊢;omega⟩,(hle_X [(1,some 1),(2,some 2),(96,some 96),(920,some 321)] (by repeat' (first | exact z0 | refine z1 ?_ | refine ⟨?_,?_⟩ | ((exact zas (f:=Packet.row) rfl rfl)) | ((exact congrArg (fun k=>HV.p (.sl 11 (((z :: L).drop k).map Chunk.row))) hr2)) | exact z2))),by dsimp only;rw [List.length_drop];omega⟩
   case neg =>
    rw [if_neg e,List.nil_append] at i1
    refine zab (beq_eq_false_iff_ne.2 e) ?_;conv=>whnf
    (try (refine hcut.go ?_;conv=>whnf))
    have hr2:r=(room1 E.config.packet (z :: L)).toNat:=by rw [r1,Int.toNat_natCast]
    refine zaa (by rw [List.length_map];omega) ?_;conv=>whnf
    refine zfa (l:=z :: L) (by show (room1 E.config.packet (z :: L)).toNat+(((List.map Chunk.row (z :: L)).length:Int) - room1 E.config.packet (z :: L)).toNat=(z :: L).length;rw [List.length_map];omega) ?_
    conv=>whnf
    refine hQ2 _ _ ?_;conv=>whnf
    exact ⟨⟨(n,(z :: L).drop r,acc),i1,by dsimp only;rw [List.length_drop];omega,fun x hx=>i3 x (List.mem_of_mem_drop hx),by dsimp only;rw [List.length_drop];simp only [List.length_append,List.length_cons,List.length_nil] at i4 ⊢;omega⟩,(hle_X [(1,some 1),(2,some 2),(96,some 96),(920,some 920)] (by repeat' (first | exact z0 | refine z1 ?_ | refine ⟨?_,?_⟩ | ((exact congrArg (fun k=>HV.p (.sl 11 (((z :: L).drop k).map Chunk.row))) hr2)) | exact z2))),by dsimp only;rw [List.length_drop];omega⟩
 . skip
   (try (refine hcut.go ?_;conv=>whnf))
   refine ⟨1,rfl,by decide,?_⟩;conv=>whnf
   refine ⟨{ x:Nat × List Chunk × List Packet // x.2.2++packN E.config.packet 1 x.1 x.2.1=zay E.config.packet 0 ([a,c].take (1+1)) /\ x.2.1.length <= x.1 /\ (∀ z ∈ x.2.1,Okc z) /\ x.2.2.length+x.2.1.length <= 2 ^ 36 },fun | ⟨(n,L,acc),_⟩=>hs 331 [(1,.ptr 1 0),(2,.ptr 2 0),(9,.ptr 96 0),(19,.own 920),(20,i64 1),(21,.p (.sl 11 (L.map Chunk.row))),(289,.agg [.p (.sl 11 (a.map Chunk.row)),.p (.sl 11 (c.map Chunk.row))]),(290,i64 1)] [(1,scS E),(2,sc0),(96,.live (.cells 148 (pdC V (Sch.qs V.queue) (ints V.sched.had) (Sco.sents V.out) (pths V.paths) (ints V.mids) (ints V.fates) (.p (.sl 11 (a.map Chunk.row))) (.p (.sl 11 (c.map Chunk.row)))))),(920,rowPk acc)],fun x=>x.1.2.1.length,⟨(c.length,c,zay E.config.packet 0 ([a,c].take 1)),yrn E.config.packet a c,Nat.le_refl _,hkc,by have:=ykv E.config.packet a c;dsimp only at this ⊢;omega⟩,?_,?_⟩
   . exact (hle_Q [(1,some 1),(2,some 2),(96,some 96),(920,some 920)])
   rintro ⟨⟨n,L,acc⟩,i1,i2,i3,i4⟩
   dsimp only at i1 i2 i3 i4
   refine zbl fun Q2 hQ2=>?_
   conv=>whnf
   cases L with
   | nil =>
    rw [zib,List.append_nil] at i1
    refine hQ2 _ _ ?_;conv=>whnf
    refine sF ?_
    refine hQ _ _ ?_;conv=>whnf
    exact ⟨⟨1+1,by omega⟩,(hle_X [(1,some 1),(2,some 2),(96,some 96),(920,some 920)] (by repeat' (first | exact z0 | refine z1 ?_ | refine ⟨?_,?_⟩ | ((exact congrArg rowPk i1)) | exact z2))),by dsimp only;omega⟩
   | cons z L =>
   obtain ⟨r,r1,r2,r3⟩:=zos (most:=E.config.packet) (l:=z :: L) (by simp)
   obtain ⟨n,rfl⟩:∃ n',n=n'+1:=⟨n - 1,by rw [List.length_cons] at i2;omega⟩
   refine sT ?_
   (refine cL ?_;refine dLm (Pck.zvp (z :: L) E.config.packet ⟨by omega,i3⟩) ?_)
   refine hcut.meet PUnit (fun _=>hs 331 [(1,.ptr 1 0),(2,.ptr 2 0),(9,.ptr 96 0),(19,.own 920),(20,i64 1),(21,.p (.sl 11 ((z :: L).map Chunk.row))),(22,i64 (room1 E.config.packet (z :: L))),(289,.agg [.p (.sl 11 (a.map Chunk.row)),.p (.sl 11 (c.map Chunk.row))]),(290,i64 1)] [(1,scS E),(2,sc0),(96,.live (.cells 148 (pdC V (Sch.qs V.queue) (ints V.sched.had) (Sco.sents V.out) (pths V.paths) (ints V.mids) (ints V.fates) (.p (.sl 11 (a.map Chunk.row))) (.p (.sl 11 (c.map Chunk.row)))))),(920,rowPk acc)]) ?_ ?_
   . conv=>whnf
     obtain ⟨rf,g1,g2,-⟩:=Pck.zzd (z :: L) E.config.packet
     by_cases e:Pck.zdq E.config.packet 0 0 (z :: L)=0
     case pos =>
      refine zac (beq_iff_eq.2 e) ?_;conv=>whnf
      exact ⟨⟨⟩,(hle_X [(1,some 1),(2,some 2),(96,some 96),(920,some 920)] (by repeat' (first | exact z0 | refine z1 ?_ | refine ⟨?_,?_⟩ | ((exact zbf (by unfold room1;rw [if_pos (by omega)]))) | exact z2)))⟩
     case neg =>
      refine zab (beq_eq_false_iff_ne.2 e) ?_;conv=>whnf
      exact ⟨⟨⟩,(hle_X [(1,some 1),(2,some 2),(96,some 96),(920,some 920)] (by repeat' (first | exact z0 | refine z1 ?_ | refine ⟨?_,?_⟩ | ((exact zbf (by unfold room1;rw [if_neg (by omega)]))) | exact z2)))⟩
   rintro ⟨⟩
   conv=>whnf
   (try (refine hcut.go ?_;conv=>whnf))
   refine zaa (by rw [List.length_map];omega) ?_;conv=>whnf
   refine zed (l:=z :: L) (by show 0+(room1 E.config.packet (z :: L) - 0).toNat <= (z :: L).length;omega) ?_
   conv=>whnf
   have hrt:(((z :: L).drop 0).take (room1 E.config.packet (z :: L) - 0).toNat)=(z :: L).take r:=by rw [List.drop_zero,r1];simp
   have pb:=Pck.zgc (((z :: L).drop 0).take (room1 E.config.packet (z :: L) - 0).toNat) E.config.packet (by rw [hrt];exact ⟨by rw [List.length_take];omega,fun c hc=>i3 c (List.mem_of_mem_take hc)⟩)
   generalize hK:Pck.pbytes (((z :: L).drop 0).take (room1 E.config.packet (z :: L) - 0).toNat) E.config.packet=K at pb
   rw [hrt] at hK
   obtain ⟨bts,er⟩:=K
   (refine cP ?_;refine dL pb ?_)
   refine sD ?_
   have hpn:packN E.config.packet 1 (n+1) (z :: L)=(if er=0 then [(⟨1,false,bts⟩:Packet)] else [])++packN E.config.packet 1 n ((z :: L).drop r):=by
    rw [packN,if_neg (by simp),pack1,r1,Int.toNat_natCast,hK]
   rw [hpn] at i1
   by_cases e:er=0
   case pos =>
    rw [if_pos e,<- List.append_assoc] at i1
    refine zac (beq_iff_eq.2 e) ?_;conv=>whnf
    refine zaa (c:=((acc.map Packet.row).length+1) * 40 <= 140737488355328) (by rw [List.length_map];omega) ?_;conv=>whnf
    have hr2:r=(room1 E.config.packet (z :: L)).toNat:=by rw [r1,Int.toNat_natCast]
    refine zaa (by rw [List.length_map];omega) ?_;conv=>whnf
    refine zfa (l:=z :: L) (by show (room1 E.config.packet (z :: L)).toNat+(((List.map Chunk.row (z :: L)).length:Int) - room1 E.config.packet (z :: L)).toNat=(z :: L).length;rw [List.length_map];omega) ?_
    conv=>whnf
    refine hQ2 _ _ ?_;conv=>whnf
    exact ⟨⟨(n,(z :: L).drop r,(acc++[⟨1,false,bts⟩])),i1,by dsimp only;rw [List.length_drop];omega,fun x hx=>i3 x (List.mem_of_mem_drop hx),by dsimp only;rw [List.length_drop];simp only [List.length_append,List.length_cons,List.length_nil] at i4 ⊢;omega⟩,(hle_X [(1,some 1),(2,some 2),(96,some 96),(920,some 321)] (by repeat' (first | exact z0 | refine z1 ?_ | refine ⟨?_,?_⟩ | ((exact zas (f:=Packet.row) rfl rfl)) | ((exact congrArg (fun k=>HV.p (.sl 11 (((z :: L).drop k).map Chunk.row))) hr2)) | exact z2))),by dsimp only;rw [List.length_drop];omega⟩
   case neg =>
    rw [if_neg e,List.nil_append] at i1
    refine zab (beq_eq_false_iff_ne.2 e) ?_;conv=>whnf
    (try (refine hcut.go ?_;conv=>whnf))
    have hr2:r=(room1 E.config.packet (z :: L)).toNat:=by rw [r1,Int.toNat_natCast]
    refine zaa (by rw [List.length_map];omega) ?_;conv=>whnf
    refine zfa (l:=z :: L) (by show (room1 E.config.packet (z :: L)).toNat+(((List.map Chunk.row (z :: L)).length:Int) - room1 E.config.packet (z :: L)).toNat=(z :: L).length;rw [List.length_map];omega) ?_
    conv=>whnf
    refine hQ2 _ _ ?_;conv=>whnf
    exact ⟨⟨(n,(z :: L).drop r,acc),i1,by dsimp only;rw [List.length_drop];omega,fun x hx=>i3 x (List.mem_of_mem_drop hx),by dsimp only;rw [List.length_drop];simp only [List.length_append,List.length_cons,List.length_nil] at i4 ⊢;omega⟩,(hle_X [(1,some 1),(2,some 2),(96,some 96),(920,some 920)] (by repeat' (first | exact z0 | refine z1 ?_ | refine ⟨?_,?_⟩ | ((exact congrArg (fun k=>HV.p (.sl 11 (((z :: L).drop k).map Chunk.row))) hr2)) | exact z2))),by dsimp only;rw [List.length_drop];omega⟩
 (try (refine hcut.go ?_;conv=>whnf))
 refine hQ _ _ ?_;conv=>whnf
 rw [hP2]
 try rfl
end Snd
end Go.HL
namespace Go.HL
open Go.Proofs
namespace Snd
open Ser
set_option maxHeartbeats 8000000
set_option maxRecDepth 100000
set_option linter.unusedSimpArgs false
theorem zrk (s:Sender) (m:Message) (hs:Fit s) (hd:m.data.length < 2 ^ 38) :
 FunOK Tryz.prog 32 [s.hv,m.hv] zad (.tup [(sendR s m).1.hv,i64 (sendR s m).2.1,i64 (sendR s m).2.2]) zad:=by
 obtain ⟨h1,h2,h3,h4,h5,h6,h7⟩:=hs
 refine zai mixed Tryz.func32 (by decide) ?_
 conv=>whnf
 (repeat' (first | (refine zbc ?_;conv=>whnf) | (refine zaa ?_ ?_;(first | kernel_rfl | decide);conv=>whnf) | (refine zau ?_ ?_;kernel_rfl;conv=>whnf) | (refine hcut.go ?_;conv=>whnf) | (refine zaf (fun h=>?_) (fun h=>?_) <;> conv=>whnf)))
 all_goals try simp only [Bool.not_eq_true',Bool.not_eq_false',beq_iff_eq,beq_eq_false_iff_ne,decide_eq_true_eq,decide_eq_false_iff_not,List.length_map] at *
 all_goals first
  | (rw [zgd (e:=3) (by simp only [zdj];(repeat' split) <;> first | rfl | omega) (by decide)];rfl)
  | (rw [zgd (e:=4) (by simp only [zdj];(repeat' split) <;> first | rfl | omega) (by decide)];rfl)
  | (rw [zgd (e:=7) (by simp only [zdj];(repeat' split) <;> first | rfl | omega) (by decide)];rfl)
  | rw [zkp (by simp only [zdj];(repeat' split) <;> first | rfl | omega)]
 refine zaa (c:=(([]:List (List PV)).length+s.queue.length) * 96 <= 140737488355328) (by simp;omega) ?_;conv=>whnf
 refine zaa (c:=((([]:List (List PV))++s.queue.map Queued.row).length+1) * 96 <= 140737488355328) (by simp;omega) ?_;conv=>whnf
 refine sD ?_
 refine zaa (c:=(([]:List (List PV)).length+(s.fates.map fun n=>[pi n]).length) * 8 <= 140737488355328) (by simp;omega) ?_;conv=>whnf
 refine zaa (c:=((([]:List (List PV))++s.fates.map fun n=>[pi n]).length+1) * 8 <= 140737488355328) (by simp;omega) ?_;conv=>whnf
 have hq:(([]:List (List PV))++s.queue.map Queued.row)++[(⟨s.fates.length,-1,s.clock,0,0,m⟩:Queued).row]=(sendS s m).queue.map Queued.row:=by simp [sendS]
 have hf:(([]:List (List PV))++s.fates.map fun n=>[pi n])++[[pi 1]]=(sendS s m).fates.map fun n=>[pi n]:=by simp [sendS]
 show HV.tup [.agg (sndC s (.p (.sl 10 ((([]:List (List PV))++s.queue.map Queued.row)++[(⟨s.fates.length,-1,s.clock,0,0,m⟩:Queued).row]))) (ints s.sched.had) (Sco.sents s.out) (pths s.paths) (ints s.mids) (.p (.sl 1 ((([]:List (List PV))++s.fates.map fun n=>[pi n])++[[pi 1]])))),i64 s.fates.length,i64 0]=_
 rw [hq,hf];rfl
def wrL (c:Config):List (Int × Int × Int):=[(c.streams,1,4),(c.paths,1,2),(c.part,1,16),(c.packet,40,120),(c.waiting,1,12),(c.first,0,65535)]
abbrev wrR (x:Int × Int × Int):List PV:=[pi x.1,pi x.2.1,pi x.2.2]
theorem yot {c:Config} {x:Int × Int × Int} (hx:x ∈ wrL c) (h:x.1 < x.2.1 \/ x.1 > x.2.2):wrgS c=3:=by
 have:c.streams < 1 \/ c.streams > 4 \/ c.paths < 1 \/ c.paths > 2 \/ c.part < 1 \/ c.part > 16 \/ c.packet < 40 \/ c.packet > 120 \/ c.waiting < 1 \/ c.waiting > 12 \/ c.first < 0 \/ c.first >= 65536:=by
  simp only [wrL,List.mem_cons,List.not_mem_nil,or_false] at hx
  rcases hx with rfl | rfl | rfl | rfl | rfl | rfl <;> dsimp only at h <;> omega
 unfold wrgS;rw [if_pos this]
theorem wr_ok {c:Config} (h:∀ x ∈ wrL c,¬ (x.1 < x.2.1 \/ x.1 > x.2.2)):wrgS c=if c.turns < 1 \/ c.turns > 5 then 1 else 0:=by
 have h1:=h (c.streams,1,4) (by simp [wrL])
 have h2:=h (c.paths,1,2) (by simp [wrL])
 have h3:=h (c.part,1,16) (by simp [wrL])
 have h4:=h (c.packet,40,120) (by simp [wrL])
 have h5:=h (c.waiting,1,12) (by simp [wrL])
 have h6:=h (c.first,0,65535) (by simp [wrL])
 dsimp only at h1 h2 h3 h4 h5 h6
 unfold wrgS;rw [if_neg (by omega)]
theorem zeq (c:Config):FunOK Tryz.prog 59 [c.hv] zad (i64 (wrgS c)) zad:=by
 refine zai mixed Tryz.func59 (by decide) ?_
 conv=>whnf
 refine ⟨{ x:List (Int × Int × Int) × List (Int × Int × Int) // wrL c=x.1++x.2 /\ ∀ y ∈ x.1,¬ (y.1 < y.2.1 \/ y.1 > y.2.2) },fun | ⟨(A,B),_⟩=>hs 50 [(1,.ptr 1 0),(23,.own 900),(24,i64 (wrL c).length),(25,i64 A.length)] [(1,.live (.cells 24 c.cells)),(900,.live (.row 103 3 ((wrL c).map wrR)))],fun x=>x.1.2.length,⟨([],wrL c),rfl,by simp⟩,?_,?_⟩
 . exact (hle_Q [(1,some 1),(900,some 23)])
 rintro ⟨⟨A,B⟩,h,hA⟩
 dsimp only at h hA
 conv=>whnf
 cases B with
 | cons x B =>
  have hz:=zat h
  have hx:=zfp h
  have h6:(wrL c).length=6:=rfl
  refine sT ?_
  refine sO ?_
  refine zaj (f:=wrR) h rfl ?_;conv=>whnf
  (try (refine hcut.go ?_;conv=>whnf))
  refine ⟨0,rfl,by decide,?_⟩;conv=>whnf
  refine ⟨1,rfl,by decide,?_⟩;conv=>whnf
  by_cases c1:x.1 < x.2.1
  case pos =>
   rw [yot hx (.inl c1)]
   refine zac (decide_eq_true c1) ?_;conv=>whnf
   try rfl
  refine zab (decide_eq_false c1) ?_;conv=>whnf
  refine ⟨0,rfl,by decide,?_⟩;conv=>whnf
  refine ⟨2,rfl,by decide,?_⟩;conv=>whnf
  by_cases c2:x.1 > x.2.2
  case pos =>
   rw [yot hx (.inr c2)]
   refine zac (decide_eq_true c2) ?_;conv=>whnf
   try rfl
  refine zab (decide_eq_false c2) ?_;conv=>whnf
  (try (refine hcut.go ?_;conv=>whnf))
  refine sF ?_
  exact ⟨⟨(A++[x],B),zae h,fun y hy=>by rcases List.mem_append.1 hy with hy | hy;exact hA y hy;rw [List.mem_singleton] at hy;subst hy;exact fun h=>h.elim c1 c2⟩,(hle_Q [(1,some 1),(900,some 900)]),by simp⟩
 | nil =>
  have hz:=zaz h
  rw [List.append_nil] at h
  rw [<- h] at hA
  rw [wr_ok hA]
  refine sN ?_
  by_cases c1:c.turns < 1
  case pos =>
   rw [if_pos (.inl c1)]
   refine zac (decide_eq_true c1) ?_;conv=>whnf
   try rfl
  refine zab (decide_eq_false c1) ?_;conv=>whnf
  by_cases c2:c.turns > 5
  case pos =>
   rw [if_pos (.inr c2)]
   refine zac (decide_eq_true c2) ?_;conv=>whnf
   try rfl
  rw [if_neg (fun h=>h.elim c1 c2)]
  refine zab (decide_eq_false c2) ?_;conv=>whnf
  try rfl
theorem ygg (c:Config):FunOK Tryz.prog 27 [c.hv] zad (.tup [(newP c).1.hv,i64 (newP c).2]) zad:=by
 refine zai mixed Tryz.func27 (by decide) ?_
 conv=>whnf
 (refine cP ?_;refine dL (zeq c) ?_)
 by_cases c0:wrgS c=0
 case neg =>
  rw [newP,if_neg c0]
  refine zac (bne_iff_ne.2 c0) ?_;conv=>whnf
  try rfl
 rw [newP,if_pos c0]
 refine zab (by simpa using c0) ?_;conv=>whnf
 (try (refine hcut.go ?_;conv=>whnf))
 obtain ⟨b1,b2,b3,b4,b5,b6,b7,b8,b9,b10,b11,b12,-⟩:=zbv c0
 refine zan (z:=c.first - 1) (W_fit (by omega) (by omega)) ?_;conv=>whnf
 refine zan (z:=c.first - 1) (W_fit (by omega) (by omega)) ?_;conv=>whnf
 refine zan (z:=2 * c.streams) (W_fit (by omega) (by omega)) ?_;conv=>whnf
 refine zaa (c:=0 <= 2 * c.streams /\ 2 * c.streams=2 * c.streams /\ 2 * c.streams * (8:Nat) <= 140737488355328) ⟨by omega,rfl,by omega⟩ ?_;conv=>whnf
 refine zan (z:=c.streams - 1) (W_fit (by omega) (by omega)) ?_;conv=>whnf
 refine zaa (c:=0 <= c.streams /\ c.streams=c.streams /\ c.streams * (8:Nat) <= 140737488355328) ⟨by omega,rfl,by omega⟩ ?_;conv=>whnf
 refine sD ?_
 have hsl:c.streams - 1=(Sch.new c.streams).last:=(W_fit (by omega) (by omega)).symm
 refine ⟨{ i:Nat // (i:Int) <= c.paths },fun | ⟨i,_⟩=>hs 51 [(1,.ptr 1 0),(2,.ptr 2 0),(5,.ptr 5 0),(34,i64 c.paths),(35,i64 i)] [(1,.live (.cells 24 [i64 c.streams,i64 c.part,i64 c.packet,i64 c.paths,i64 (c).turns,i64 c.waiting,i64 c.first])),(2,sc0),(5,.live (.cells 32 (sndC (newS c) hnil (.own 901) hnil (.own 900) (.own 902) hnil))),(900,rowW (List.replicate i (Paths.new c.part))),(901,rowT (Sch.new c.streams).had),(902,rowT (List.replicate (2 * c.streams).toNat 0))],fun i=>c.paths.toNat - i.1,⟨0,by omega⟩,?_,?_⟩
 . exact (hle_X [(1,some 1),(2,some 2),(5,some 5),(900,none),(901,some 30),(902,some 24)] (by repeat' (first | exact z0 | refine z1 ?_ | refine ⟨?_,?_⟩ | ((exact zao (by rw [List.map_replicate];rfl))) | ((refine zao ?_;rw [show (Sch.new c.streams).had=List.replicate (max c.streams 0).toNat 0 from rfl,List.map_replicate,show max c.streams 0=c.streams by omega];rfl)) | ((exact congrArg (fun z=>HSlot.live (.cells 32 (sndC { newS c with sched:=⟨z,-1,[]⟩ } hnil (.own 30) hnil hnil (.own 24) hnil))) hsl)) | exact z2)))
 rintro ⟨i,k1⟩
 conv=>whnf
 by_cases hi:(i:Int) < c.paths
 case pos =>
  refine sT ?_
  refine sR ?_
  refine sR ?_
  refine zaa (c:=(((List.replicate i (Paths.new c.part)).map Path.row).length+1) * 56 <= 140737488355328) (by simp;omega) ?_;conv=>whnf
  refine sF ?_
  exact ⟨⟨i+1,by omega⟩,(hle_X [(1,some 1),(2,some 2),(5,some 5),(900,some 47),(901,some 901),(902,some 902)] (by repeat' (first | exact z0 | refine z1 ?_ | refine ⟨?_,?_⟩ | ((exact zas (f:=Path.row) List.replicate_succ' rfl)) | exact z2))),by dsimp only;omega⟩
 case neg =>
  have hin:c.paths.toNat=i:=by omega
  refine sN ?_
  rw [show (newS c)={ newS c with paths:=List.replicate i (Paths.new c.part) } by rw [<- hin];rfl]
  try rfl
end Snd
end Go.HL
namespace Go.HL
open Go.Proofs
namespace Snd
open Ser
set_option maxHeartbeats 8000000
set_option maxRecDepth 100000
set_option linter.unusedSimpArgs false
theorem PF.down {j i:Nat} {s:Sender} (h:PF (j+i) s):PF j s:=⟨h.g,h.some,h.part,h.part2,h.msg,h.chunk,Nat.lt_of_le_of_lt (Nat.add_le_add_left (Nat.mul_le_mul_right _ (Nat.le_add_right j i)) _) h.bytes,h.few⟩
theorem PO.down {g:Config} {j i n k:Nat} {p:Pump} (h:PO g (j+i) n k p):PO g j n k p:=⟨h.pf.down,h.paths,h.outs,h.config,h.most⟩
theorem ydm:∀ (i:Nat) {g:Config} {j n k:Nat} {p:Pump},PO g (j+i) n k p -> PO g j n (k+i) (nexts i p)
 | 0,_,_,_,_,_,h=>h
 | i+1,g,j,n,k,p,h=>by
  unfold nexts
  rcases zzh (j:=j+i) h with ⟨-,e⟩ | ⟨q,-,e,-,-,h2⟩
  . rw [e];exact h.down.mono (by omega)
  . rw [e]
    have:=ydm i h2
    exact this.mono (by omega)
theorem zxs (most path:Int):∀ (n:Nat) (l:List Chunk),(packN most path n l).length <= n
 | 0,l=>by simp [packN]
 | n+1,l=>by
  have:=zxs most path n (l.drop (room1 most l).toNat)
  have h1:(pack1 most path l).length <= 1:=by unfold pack1;split <;> simp
  unfold packN
  split
  . simp
  . rw [List.length_append];omega
theorem zmp (most:Int) {k:Nat}:∀ (ls:List (List Chunk)) (i:Nat),(∀ l ∈ ls,l.length <= k) -> (zay most i ls).length <= k * ls.length
 | [],i,_=>by simp [zay]
 | l :: ls,i,h=>by
  have h1:=zxs most i l.length l
  have h2:=zmp most ls (i+1) fun x hx=>h x (by simp [hx])
  have h3:=h l (by simp)
  unfold zay
  rw [List.length_append,List.length_cons,Nat.mul_add];omega
theorem zkx {N:Nat} {s:Sender} (h:SI N s):(pump s).2.length < 2 ^ 62:=by
 have e1:=ztl (ziu (zko h.pf))
 have e2:=ydm (j:=1) 61 e1
 have h1:=(ziu (zko h.pf)).pf.few
 have h2:=h.npaths
 have h3:=zbv h.cfg
 have h4:=zmp s.config.packet (pumpP s).out 0 fun l hl=>(e2.most l hl).1
 have h5:(pumpP s).out.length=s.paths.length:=e2.outs
 rw [h5] at h4
 have h6:s.paths.length <= 2:=by omega
 show (zay s.config.packet 0 (pumpP s).out).length < _
 refine Nat.lt_of_le_of_lt h4 (Nat.lt_of_le_of_lt (Nat.mul_le_mul_left _ h6) ?_)
 omega
end Snd
namespace Ln
open Ser
set_option maxHeartbeats 8000000
set_option maxRecDepth 100000
set_option linter.unusedSimpArgs false
def noR:Receiver:=⟨⟨0,0,0,0,0,0,0⟩,0,[],[],[],[]⟩
def noL:Line:=⟨Snd.noS,noR,[]⟩
def newLP (c:Config):Line × Int:=if Snd.wrgS c=0 then (newL c,0) else (noL,Snd.wrgS c)
end Ln
end Go.HL
namespace Go.HL
open Go.Proofs
namespace Snd
open Ser
set_option maxHeartbeats 8000000
set_option maxRecDepth 100000
set_option linter.unusedSimpArgs false
theorem SL.side {s t:Sender} (h:SL s) (e:t.sched=s.sched):SL t:=by unfold SL;rw [e];exact h
theorem zxt (s:Sender):(Snd.settle s).sched=s.sched:=rfl
theorem yqk {s:Sender} (h:SL s) (c:Chunk):SL (hear s c):=by
 unfold hear
 split
 . exact h
 split
 . exact h
 rw [zhg]
 refine h.side ?_
 rw [zxt]
 unfold zdg
 have hU:∀ p l,(zeg p (zgv s c (Sco.sack s.out s.cum c s.paths.length)) l).sched=s.sched:=fun p l=>by
  unfold zeg
  split
  . rfl
  . split <;> rfl
 split
 . exact hU _ _
 . exact hU _ _
theorem zpf (part:Int):∀ (l:List Nat) (s:Sender),(l.foldl (late1 part) s).sched=s.sched
 | [],_=>rfl
 | i :: l,s=>by
  rw [List.foldl_cons,zpf part l]
  unfold late1
  split
  . rfl
  split
  . rfl
  . dsimp only;split <;> rfl
theorem ykw {s:Sender} (h:SL s):SL (tick s):=h.side (zpf _ _ _)
theorem zmq {path:Nat}:∀ (l:List Nat) (p:Pump),(l.foldl (zbq path) p).s.sched=p.s.sched
 | [],_=>rfl
 | i :: l,p=>by
  rw [List.foldl_cons,zmq l]
  unfold zbq
  split
  . rfl
  . split
    . exact zxn _ _ _
    . rfl
theorem ydn {N:Nat}:∀ (n:Nat) {p:Pump},SI N p.s -> SL p.s -> SL (nexts n p).s
 | 0,_,_,h=>h
 | n+1,p,hS,h=>by
  rw [nexts]
  cases hq:next p with
  | none=>exact h
  | some q=>exact ydn n (zjr hS hq) (ykq hS hq)
theorem yql {N:Nat} {s:Sender} (hS:SI N s) (h:SL s):SL (pump s).1:=by
 have h1:=zxm h
 have s1:=(zid hS).1
 have s2:=zes (o:=List.replicate s.paths.length []) s1
 have h2:SL (forward ⟨expire s,List.replicate s.paths.length []⟩).s:=h1.side (zkv _)
 have h3:SL (again (forward ⟨expire s,List.replicate s.paths.length []⟩)).s:=h2.side (zmq _ _)
 exact (ydn 61 (zkq s2) h3).side rfl
theorem yqm {c:Config} (h:wrgS c=0):SL (newS c):=by
 have hw:=zbv h
 have e1:(newS c).sched=Sch.new c.streams:=rfl
 unfold SL
 rw [e1]
 unfold Sch.new
 dsimp only
 rw [W_fit (by omega) (by omega),List.length_replicate]
 omega
end Snd
namespace Ln
open Ser
set_option maxHeartbeats 8000000
set_option maxRecDepth 100000
set_option linter.unusedSimpArgs false
theorem ydo {back:Bool}:∀ (cs:List Chunk) {x:Line × Bool},Snd.SL x.1.sender -> Snd.SL (cs.foldl (hear1 back) x).1.sender
 | [],_,h=>h
 | c :: cs,x,h=>by
  refine ydo (back:=back) cs ?_
  unfold hear1
  split
  . exact Snd.yqk h c
  split
  . exact h
  split
  . exact h
  . exact h
theorem ykx {l:Line} (h:Snd.SL l.sender) (p:Packet):Snd.SL (come l p).sender:=by
 have h2:Snd.SL (zgf l p).1.sender:=ydo (back:=p.back) _ (x:=(l,false)) h
 unfold come
 split
 . exact h
 split
 . unfold told;split <;> exact h2
 . exact h2
theorem zpg {N:Nat} {l:Line} (hS:Snd.SI N l.sender) (h:Snd.SL l.sender):Snd.SL (emit l).sender:=Snd.yql hS h
theorem yro {N M:Nat} {l:Line} (h:LI N M l) (hl:Snd.SL l.sender) (x:Step) (hN:N+1 <= 2 ^ 20) (hM:M+120 <= 2 ^ 20):Snd.SL (doS l x).1.sender:=by
 unfold doS
 split
 . split
   . rename_i e
     exact zpg (l:={ l with sender:=Snd.sendS l.sender x.message }) (Snd.zjq h.snd e hN) (hl.side rfl)
   . exact hl
 split
 . split
   . exact hl
   split
   . exact hl
   rename_i p hp
   have hb:=h.bytes p (List.mem_of_getElem? hp)
   split
   . exact zpg (l:={ l with way:=putW l.way [p] }) h.snd hl
   . split
     . exact zpg (zpd (l:={ l with way:=l.way.eraseIdx x.n.toNat }) ⟨h.snd,h.rcv,h.small,by show (l.way.eraseIdx _).length <= 40;have:=h.way;rw [List.length_eraseIdx];split <;> omega,fun q hq=>h.bytes q (List.mem_of_mem_eraseIdx hq)⟩ hb hM).snd (ykx (l:={ l with way:=l.way.eraseIdx x.n.toNat }) hl p)
     . exact zpg (l:={ l with way:=l.way.eraseIdx x.n.toNat }) h.snd hl
 split
 . exact zpg (l:={ l with sender:=Snd.tick l.sender }) (Snd.zlv h.snd) (Snd.ykw hl)
 . exact hl
theorem zxu {N M:Nat} (l:Line) (p:Packet) (h:LI N M l) (hM:M+120 <= 2 ^ 20) (hp:p.bytes.length <= 120) {rows:List (List PV)} (hr:rows=l.way.map Packet.row) :
 FunOK Tryz.prog 108 [.agg (lnC l.sender l.receiver (.p (.sl 3 rows))),p.hv] zad (come l p).hv zad:=by
 subst hr;exact ygb l p h hM hp
theorem ynv {N M:Nat} (l:Line) (x:Step) (h:LI N M l) (hsl:Snd.SL l.sender) (hN:N+1 <= 2 ^ 20) (hM:M+120 <= 2 ^ 20) (hx:x.message.data.length < 2 ^ 38) :
 FunOK Tryz.prog 44 [l.hv,x.hv] zad (.tup [(doS l x).1.hv,(doS l x).2.hv]) zad:=by
 have hway:=h.way
 have hby:=h.bytes
 generalize hT:doS l x=T
 rw [doS] at hT
 refine zai mixed Tryz.func44 (by decide) ?_
 conv=>whnf
 (try (refine hcut.go ?_;conv=>whnf))
 by_cases c1:x.kind=1
 case pos =>
  rw [if_pos c1] at hT
  refine zac (beq_iff_eq.2 c1) ?_;conv=>whnf
  have ps:=Snd.zrk l.sender x.message h.snd.fit hx
  by_cases e1:Snd.zdj l.sender x.message=0
  case pos =>
   rw [if_pos e1] at hT
   rw [Snd.zkp e1] at ps
   dsimp only at ps
   (refine cP ?_;refine dL ps ?_)
   (try (refine hcut.go ?_;conv=>whnf))
   have hy:=(show LI (N+1) M { l with sender:=Snd.sendS l.sender x.message } from ⟨Snd.zjq h.snd e1 hN,h.rcv,h.small,h.way,h.bytes⟩)
   have hyl:=(show Snd.SL (Snd.sendS l.sender x.message) from hsl.side rfl)
   have hyw:=hy.way
   have pp:=Snd.zgx (({ l with sender:=Snd.sendS l.sender x.message }:Line)).sender hy.snd hyl
   have pu:=zfs (({ l with sender:=Snd.sendS l.sender x.message }:Line)).way (Snd.pump (({ l with sender:=Snd.sendS l.sender x.message }:Line)).sender).2 hyw (Snd.zkx hy.snd) (rows:=(l.way.map Packet.row)) (rfl)
   unfold emit at hT
   generalize Snd.pump (({ l with sender:=Snd.sendS l.sender x.message }:Line)).sender=PP at hT pp pu
   obtain ⟨PS,PK⟩:=PP
   dsimp only at hT pp pu
   subst hT
   (try (refine hcut.go ?_;conv=>whnf))
   (refine cP ?_;refine dL pp ?_)
   (refine cP ?_;refine dL pu ?_)
   refine sD ?_
   try rfl
  case neg =>
   rw [if_neg e1] at hT
   subst hT
   rw [Snd.zgd rfl e1] at ps
   dsimp only at ps
   (refine cP ?_;refine dL ps ?_)
   refine zac (bne_iff_ne.2 e1) ?_;conv=>whnf
   try rfl
 rw [if_neg c1] at hT
 refine zab (beq_eq_false_iff_ne.2 c1) ?_;conv=>whnf
 (try (refine hcut.go ?_;conv=>whnf))
 by_cases c2:x.kind=2 \/ x.kind=3 \/ x.kind=4
 case neg =>
  rw [if_neg c2] at hT
  have c2:=not_or.1 c2
  have c3:=not_or.1 c2.2
  refine zab (beq_eq_false_iff_ne.2 c2.1) ?_;conv=>whnf
  (try (refine hcut.go ?_;conv=>whnf))
  refine zab (beq_eq_false_iff_ne.2 c3.1) ?_;conv=>whnf
  (try (refine hcut.go ?_;conv=>whnf))
  refine zab (beq_eq_false_iff_ne.2 c3.2) ?_;conv=>whnf
  (try (refine hcut.go ?_;conv=>whnf))
  by_cases c5:x.kind=5
  case pos =>
   rw [if_pos c5] at hT
   refine zac (beq_iff_eq.2 c5) ?_;conv=>whnf
   (refine cP ?_;refine dL (Snd.zqw l.sender h.snd) ?_)
   have hy:=(show LI N M { l with sender:=Snd.tick l.sender } from ⟨Snd.zlv h.snd,h.rcv,h.small,h.way,h.bytes⟩)
   have hyl:=(Snd.ykw hsl)
   have hyw:=hy.way
   have pp:=Snd.zgx (({ l with sender:=Snd.tick l.sender }:Line)).sender hy.snd hyl
   have pu:=zfs (({ l with sender:=Snd.tick l.sender }:Line)).way (Snd.pump (({ l with sender:=Snd.tick l.sender }:Line)).sender).2 hyw (Snd.zkx hy.snd) (rows:=(l.way.map Packet.row)) (rfl)
   unfold emit at hT
   generalize Snd.pump (({ l with sender:=Snd.tick l.sender }:Line)).sender=PP at hT pp pu
   obtain ⟨PS,PK⟩:=PP
   dsimp only at hT pp pu
   subst hT
   (try (refine hcut.go ?_;conv=>whnf))
   (refine cP ?_;refine dL pp ?_)
   (refine cP ?_;refine dL pu ?_)
   refine sD ?_
   try rfl
  case neg =>
   rw [if_neg c5] at hT
   subst hT
   refine zab (beq_eq_false_iff_ne.2 c5) ?_;conv=>whnf
   try rfl
 rw [if_pos c2] at hT
 have c6:x.kind=2 \/ x.kind ≠ 2 /\ (x.kind=3 \/ x.kind ≠ 3 /\ x.kind=4):=by omega
 rcases c6 with c6 | ⟨c8,c6 | ⟨c7,c6⟩⟩
 . refine zac (beq_iff_eq.2 c6) ?_;conv=>whnf
   (try (refine hcut.go ?_;conv=>whnf))
   try (refine zac (beq_iff_eq.2 c6) ?_;conv=>whnf)
   by_cases n0:x.n < 0
   case pos =>
    rw [if_pos n0] at hT
    subst hT
    refine zac (decide_eq_true n0) ?_;conv=>whnf
    try rfl
   rw [if_neg n0] at hT
   refine zab (decide_eq_false n0) ?_;conv=>whnf
   cases hp:l.way[x.n.toNat]? with
   | none =>
    rw [hp] at hT
    dsimp only at hT
    subst hT
    have hge:=List.getElem?_eq_none_iff.1 hp
    refine zac (decide_eq_true (by rw [List.length_map];omega)) ?_;conv=>whnf
    try rfl
   | some p =>
   rw [hp] at hT
   dsimp only at hT
   have hlt:=(List.getElem?_eq_some_iff.1 hp).1
   have hpb:=hby p (List.mem_of_getElem? hp)
   have her:l.way.eraseIdx x.n.toNat=l.way.take x.n.toNat++l.way.drop (x.n.toNat+1):=List.eraseIdx_eq_take_drop_succ _ _
   refine zab (decide_eq_false (by rw [List.length_map];omega)) ?_;conv=>whnf
   (try (refine hcut.go ?_;conv=>whnf))
   refine Snd.zah hp (by omega) ?_;conv=>whnf
   (try (refine hcut.go ?_;conv=>whnf))
   rw [if_neg (by omega),if_pos c6] at hT
   refine zab (beq_eq_false_iff_ne.2 (by omega)) ?_;conv=>whnf
   refine zaa (by rw [List.length_map];omega) ?_;conv=>whnf
   refine zed (l:=l.way) (by show 0+(x.n - 0).toNat <= l.way.length;omega) ?_
   conv=>whnf
   refine zaa (c:=(([]:List (List PV)).length+(((l.way.drop 0).take (x.n - 0).toNat).map Packet.row).length) * 40 <= 140737488355328) (by rw [List.length_map,List.length_take,List.length_nil];omega) ?_;conv=>whnf
   refine zan (z:=x.n+1) (W_fit (by omega) (by omega)) ?_;conv=>whnf
   refine zaa (by rw [List.length_map];omega) ?_;conv=>whnf
   refine zfa (l:=l.way) (by show (x.n+1).toNat+(((List.map Packet.row l.way).length:Int) - (x.n+1)).toNat=l.way.length;rw [List.length_map];omega) ?_
   conv=>whnf
   refine zaa (c:=((([]:List (List PV))++((l.way.drop 0).take (x.n - 0).toNat).map Packet.row).length+((l.way.drop (x.n+1).toNat).map Packet.row).length) * 40 <= 140737488355328) (by rw [List.nil_append,List.length_map,List.length_map,List.length_take,List.length_drop,List.length_drop];omega) ?_;conv=>whnf
   refine sD ?_
   have hrow:(([]:List (List PV))++((l.way.drop 0).take (x.n - 0).toNat).map Packet.row)++(l.way.drop (x.n+1).toNat).map Packet.row=(l.way.eraseIdx x.n.toNat).map Packet.row:=by
    rw [her,List.map_append,List.nil_append,List.drop_zero,show (x.n - 0).toNat=x.n.toNat by omega,show (x.n+1).toNat=x.n.toNat+1 by omega]
   have hli:LI N M { l with way:=l.way.eraseIdx x.n.toNat }:=⟨h.snd,h.rcv,h.small,by show (l.way.eraseIdx _).length <= 40;rw [List.length_eraseIdx];split <;> omega,fun q hq=>hby q (List.mem_of_mem_eraseIdx hq)⟩
   refine zac (beq_iff_eq.2 c6) ?_;conv=>whnf
   have hcl:=zpd hli hpb hM
   have hcs:=ykx (l:={ l with way:=l.way.eraseIdx x.n.toNat }) hsl p
   have pc:=zxu { l with way:=l.way.eraseIdx x.n.toNat } p hli hM hpb hrow
   generalize come { l with way:=l.way.eraseIdx x.n.toNat } p=Y at hT hcl hcs pc
   (refine cP ?_;refine dL pc ?_)
   have hy:=hcl
   have hyl:=hcs
   have hyw:=hy.way
   have pp:=Snd.zgx (Y).sender hy.snd hyl
   have pu:=zfs (Y).way (Snd.pump (Y).sender).2 hyw (Snd.zkx hy.snd) (rows:=(Y.way.map Packet.row)) (rfl)
   unfold emit at hT
   generalize Snd.pump (Y).sender=PP at hT pp pu
   obtain ⟨PS,PK⟩:=PP
   dsimp only at hT pp pu
   subst hT
   (try (refine hcut.go ?_;conv=>whnf))
   (refine cP ?_;refine dL pp ?_)
   (refine cP ?_;refine dL pu ?_)
   refine sD ?_
   try rfl
 . refine zab (beq_eq_false_iff_ne.2 c8) ?_;conv=>whnf
   (try (refine hcut.go ?_;conv=>whnf))
   refine zac (beq_iff_eq.2 c6) ?_;conv=>whnf
   (try (refine hcut.go ?_;conv=>whnf))
   try (refine zac (beq_iff_eq.2 c6) ?_;conv=>whnf)
   by_cases n0:x.n < 0
   case pos =>
    rw [if_pos n0] at hT
    subst hT
    refine zac (decide_eq_true n0) ?_;conv=>whnf
    try rfl
   rw [if_neg n0] at hT
   refine zab (decide_eq_false n0) ?_;conv=>whnf
   cases hp:l.way[x.n.toNat]? with
   | none =>
    rw [hp] at hT
    dsimp only at hT
    subst hT
    have hge:=List.getElem?_eq_none_iff.1 hp
    refine zac (decide_eq_true (by rw [List.length_map];omega)) ?_;conv=>whnf
    try rfl
   | some p =>
   rw [hp] at hT
   dsimp only at hT
   have hlt:=(List.getElem?_eq_some_iff.1 hp).1
   have hpb:=hby p (List.mem_of_getElem? hp)
   have her:l.way.eraseIdx x.n.toNat=l.way.take x.n.toNat++l.way.drop (x.n.toNat+1):=List.eraseIdx_eq_take_drop_succ _ _
   refine zab (decide_eq_false (by rw [List.length_map];omega)) ?_;conv=>whnf
   (try (refine hcut.go ?_;conv=>whnf))
   refine Snd.zah hp (by omega) ?_;conv=>whnf
   (try (refine hcut.go ?_;conv=>whnf))
   rw [if_neg (by omega),if_neg c8] at hT
   refine zab (beq_eq_false_iff_ne.2 (by omega)) ?_;conv=>whnf
   refine zaa (by rw [List.length_map];omega) ?_;conv=>whnf
   refine zed (l:=l.way) (by show 0+(x.n - 0).toNat <= l.way.length;omega) ?_
   conv=>whnf
   refine zaa (c:=(([]:List (List PV)).length+(((l.way.drop 0).take (x.n - 0).toNat).map Packet.row).length) * 40 <= 140737488355328) (by rw [List.length_map,List.length_take,List.length_nil];omega) ?_;conv=>whnf
   refine zan (z:=x.n+1) (W_fit (by omega) (by omega)) ?_;conv=>whnf
   refine zaa (by rw [List.length_map];omega) ?_;conv=>whnf
   refine zfa (l:=l.way) (by show (x.n+1).toNat+(((List.map Packet.row l.way).length:Int) - (x.n+1)).toNat=l.way.length;rw [List.length_map];omega) ?_
   conv=>whnf
   refine zaa (c:=((([]:List (List PV))++((l.way.drop 0).take (x.n - 0).toNat).map Packet.row).length+((l.way.drop (x.n+1).toNat).map Packet.row).length) * 40 <= 140737488355328) (by rw [List.nil_append,List.length_map,List.length_map,List.length_take,List.length_drop,List.length_drop];omega) ?_;conv=>whnf
   refine sD ?_
   have hrow:(([]:List (List PV))++((l.way.drop 0).take (x.n - 0).toNat).map Packet.row)++(l.way.drop (x.n+1).toNat).map Packet.row=(l.way.eraseIdx x.n.toNat).map Packet.row:=by
    rw [her,List.map_append,List.nil_append,List.drop_zero,show (x.n - 0).toNat=x.n.toNat by omega,show (x.n+1).toNat=x.n.toNat+1 by omega]
   have hli:LI N M { l with way:=l.way.eraseIdx x.n.toNat }:=⟨h.snd,h.rcv,h.small,by show (l.way.eraseIdx _).length <= 40;rw [List.length_eraseIdx];split <;> omega,fun q hq=>hby q (List.mem_of_mem_eraseIdx hq)⟩
   refine zab (beq_eq_false_iff_ne.2 c8) ?_;conv=>whnf
   have hy:=hli
   have hyl:=hsl
   have hyw:=hy.way
   have pp:=Snd.zgx (({ l with way:=l.way.eraseIdx x.n.toNat }:Line)).sender hy.snd hyl
   have pu:=zfs (({ l with way:=l.way.eraseIdx x.n.toNat }:Line)).way (Snd.pump (({ l with way:=l.way.eraseIdx x.n.toNat }:Line)).sender).2 hyw (Snd.zkx hy.snd) (rows:=_) (hrow)
   unfold emit at hT
   generalize Snd.pump (({ l with way:=l.way.eraseIdx x.n.toNat }:Line)).sender=PP at hT pp pu
   obtain ⟨PS,PK⟩:=PP
   dsimp only at hT pp pu
   subst hT
   (try (refine hcut.go ?_;conv=>whnf))
   (refine cP ?_;refine dL pp ?_)
   (refine cP ?_;refine dL pu ?_)
   refine sD ?_
   try rfl
 . refine zab (beq_eq_false_iff_ne.2 c8) ?_;conv=>whnf
   (try (refine hcut.go ?_;conv=>whnf))
   refine zab (beq_eq_false_iff_ne.2 c7) ?_;conv=>whnf
   (try (refine hcut.go ?_;conv=>whnf))
   refine zac (beq_iff_eq.2 c6) ?_;conv=>whnf
   (try (refine hcut.go ?_;conv=>whnf))
   try (refine zac (beq_iff_eq.2 c6) ?_;conv=>whnf)
   by_cases n0:x.n < 0
   case pos =>
    rw [if_pos n0] at hT
    subst hT
    refine zac (decide_eq_true n0) ?_;conv=>whnf
    try rfl
   rw [if_neg n0] at hT
   refine zab (decide_eq_false n0) ?_;conv=>whnf
   cases hp:l.way[x.n.toNat]? with
   | none =>
    rw [hp] at hT
    dsimp only at hT
    subst hT
    have hge:=List.getElem?_eq_none_iff.1 hp
    refine zac (decide_eq_true (by rw [List.length_map];omega)) ?_;conv=>whnf
    try rfl
   | some p =>
   rw [hp] at hT
   dsimp only at hT
   have hlt:=(List.getElem?_eq_some_iff.1 hp).1
   have hpb:=hby p (List.mem_of_getElem? hp)
   have her:l.way.eraseIdx x.n.toNat=l.way.take x.n.toNat++l.way.drop (x.n.toNat+1):=List.eraseIdx_eq_take_drop_succ _ _
   refine zab (decide_eq_false (by rw [List.length_map];omega)) ?_;conv=>whnf
   (try (refine hcut.go ?_;conv=>whnf))
   refine Snd.zah hp (by omega) ?_;conv=>whnf
   (try (refine hcut.go ?_;conv=>whnf))
   rw [if_pos c6] at hT
   refine zac (beq_iff_eq.2 c6) ?_;conv=>whnf
   (refine cP ?_;refine dL (zpe l.way [p] hway (by simp)) ?_)
   have hput:LI N M { l with way:=putW l.way [p] }:=ydh h fun q hq=>by rw [List.mem_singleton] at hq;subst hq;exact hpb
   have hy:=hput
   have hyl:=hsl
   have hyw:=hy.way
   have pp:=Snd.zgx (({ l with way:=putW l.way [p] }:Line)).sender hy.snd hyl
   have pu:=zfs (({ l with way:=putW l.way [p] }:Line)).way (Snd.pump (({ l with way:=putW l.way [p] }:Line)).sender).2 hyw (Snd.zkx hy.snd) (rows:=((putW l.way [p]).map Packet.row)) (rfl)
   unfold emit at hT
   generalize Snd.pump (({ l with way:=putW l.way [p] }:Line)).sender=PP at hT pp pu
   obtain ⟨PS,PK⟩:=PP
   dsimp only at hT pp pu
   subst hT
   (try (refine hcut.go ?_;conv=>whnf))
   (refine cP ?_;refine dL pp ?_)
   (refine cP ?_;refine dL pu ?_)
   refine sD ?_
   try rfl
end Ln
end Go.HL
namespace Go.HL
open Go.Proofs
namespace Ln
open Ser
set_option maxHeartbeats 8000000
set_option maxRecDepth 100000
set_option linter.unusedSimpArgs false
abbrev stps (l:List Step):HV:=.p (.sl 7 (l.map Step.row))
abbrev lnL (l:Line):HSlot:=.live (.cells 40 l.cells)
end Ln
end Go.HL
namespace Go.HL
open Go.Proofs
namespace Ln
open Ser
set_option maxHeartbeats 8000000
set_option maxRecDepth 100000
set_option linter.unusedSimpArgs false
theorem ygh (c:Config):FunOK Tryz.prog 43 [c.hv] zad (.tup [(newLP c).1.hv,i64 (newLP c).2]) zad:=by
 refine zai mixed Tryz.func43 (by decide) ?_
 conv=>whnf
 have pn:=Snd.ygg c
 by_cases c1:Snd.wrgS c=0
 case neg =>
  rw [show newLP c=(noL,Snd.wrgS c) from if_neg c1]
  rw [show Snd.newP c=(Snd.noS,Snd.wrgS c) from if_neg c1] at pn
  (refine cP ?_;refine dL pn ?_)
  refine zac (bne_iff_ne.2 c1) ?_;conv=>whnf
  try rfl
 have hw:=Snd.zbv c1
 rw [show newLP c=(newL c,0) from if_pos c1]
 rw [show Snd.newP c=(Snd.newS c,0) from if_pos c1] at pn
 (refine cP ?_;refine dL pn ?_)
 (try (refine hcut.go ?_;conv=>whnf))
 (refine cP ?_;refine dL (Rcv.yga c (by omega) (by omega) (by omega)) ?_)
 ((refine zau ?_ ?_;(· kernel_rfl);conv=>whnf);try (refine hcut.go ?_;conv=>whnf))
 try rfl
end Ln
end Go.HL
namespace Go.HL
open Go.Proofs
namespace Snd
open Ser
set_option maxHeartbeats 4000000
set_option maxRecDepth 100000
set_option linter.unusedSimpArgs false
def wins (s:Sender):List Int:=s.paths.map Path.window
def DI (s:Sender):Prop:=∀ x ∈ s.out,(x.chunk.data.length:Int) <= s.config.part
theorem zxv {α β:Type} {l:List α} {k:Nat} {f:α -> α} {g:α -> β} (h:∀ x,g (f x)=g x):(setAt l k f).map g=l.map g:=by
 unfold setAt
 split
 . rfl
 . rename_i x hx
   apply List.ext_getElem?
   intro i
   rw [List.getElem?_map,List.getElem?_map]
   by_cases e:k=i
   . subst e
     rw [List.getElem?_set_self (List.getElem?_eq_some_iff.1 hx).1,hx]
     show some (g (f x))=some (g x)
     rw [h]
   . rw [List.getElem?_set_ne e]
theorem zmr (s:Sender):wins (flights s)=wins s:=by
 show (s.paths.mapIdx _).map _=s.paths.map _
 apply List.ext_getElem?
 intro i
 rw [List.getElem?_map,List.getElem?_mapIdx,List.getElem?_map]
 cases s.paths[i]? <;> rfl
theorem zxw (s:Sender) (id:Nat):wins (giveS s id)=wins s:=by
 have:wins (giveS s id)=wins { (s.queue.foldl (end1 id) { s with fates:=s.fates.set id 3 }) with queue:=s.queue.filter fun m=>decide (m.id ≠ (id:Int)),sched:=if s.sched.hand=(id:Int) then { s.sched with hand:=-1 } else s.sched,out:=(s.queue.foldl (end1 id) { s with fates:=s.fates.set id 3 }).out.map (Sco.give id),forward:=true }:=zmr _
 rw [this]
 show (s.queue.foldl (end1 id) { s with fates:=s.fates.set id 3 }).paths.map _=_
 rw [zgr];rfl
section
variable {N:Nat} {s:Sender}
theorem zrl:∀ (q:List Queued) {s:Sender},(∀ m ∈ q,0 <= m.id) -> wins (q.foldl expQ s)=wins s
 | [],_,_=>rfl
 | m :: q,s,h=>by
  rw [List.foldl_cons,zrl q fun x hx=>h x (by simp [hx])]
  unfold expQ
  split
  . rw [show m.id=((m.id.toNat:Nat):Int) by have:=h m (by simp);omega];exact zxw s _
  . rfl
theorem zrm:∀ (q:List Sent) {s:Sender},(∀ m ∈ q,0 <= m.id) -> wins (q.foldl expX s)=wins s
 | [],_,_=>rfl
 | m :: q,s,h=>by
  rw [List.foldl_cons,zrm q fun x hx=>h x (by simp [hx])]
  unfold expX
  split
  . rw [show m.id=((m.id.toNat:Nat):Int) by have:=h m (by simp);omega];exact zxw s _
  . rfl
theorem yag (h:SI N s):wins (expire s)=wins s:=by
 obtain ⟨h2,-⟩:=ziy s.queue s h fun m hm=>⟨(h.queue m hm).id0,(h.queue m hm).id1⟩
 unfold expire
 rw [zrm _ fun x hx=>(h2.out x hx).id0,zrl _ fun m hm=>(h.queue m hm).id0]
theorem zxx (p:Pump):wins (forward p).s=wins p.s:=by
 unfold forward
 split
 . rfl
 . exact zxv fun x=>by unfold alarm;split <;> rfl
theorem ydp (p:Pump) (i path:Nat):wins (fly p i path).s=wins p.s:=by
 unfold fly
 split
 . rfl
 . exact zxv fun x=>rfl
theorem zph {path:Nat}:∀ (l:List Nat) (p:Pump),wins (l.foldl (zbq path) p).s=wins p.s
 | [],_=>rfl
 | i :: l,p=>by
  rw [List.foldl_cons,zph l]
  unfold zbq
  split
  . rfl
  . split
    . exact ydp _ _ _
    . rfl
theorem yah {p q:Pump} (h:next p=some q):∃ (k:Nat) (m:Queued),p.s.queue[k]?=some m /\ opened p.s (choose p.s)=true /\ q=fly ⟨cutS p.s k m,p.out⟩ p.s.out.length (choose p.s):=by
 obtain ⟨s,o⟩:=p
 unfold next at h
 dsimp only at h
 split at h
 . cases h
 rename_i c
 cases hm:s.queue[(zcn s).toNat]? with
 | none=>rw [hm] at h;cases h
 | some m =>
  rw [hm] at h
  dsimp only at h
  split at h
  . cases h
  . cases h
    refine ⟨_,m,hm,?_,rfl⟩
    cases ho:opened s (choose s) with
    | true=>rfl
    | false=>exact absurd (.inr (.inl ho)) c
theorem zrn:∀ (n:Nat) (p:Pump),wins (nexts n p).s=wins p.s
 | 0,_=>rfl
 | n+1,p=>by
  rw [nexts]
  cases hq:next p with
  | none=>rfl
  | some q =>
   obtain ⟨k,m,-,-,rfl⟩:=yah hq
   show wins (nexts n _).s=_
   rw [zrn n,ydp];rfl
theorem yky (h:SI N s):wins (pump s).1=wins s:=by
 have e1:wins (pump s).1=wins (pumpP s).s:=by
  show (List.map _ _).map _=_
  unfold wins
  rw [List.map_map]
  refine List.map_congr_left fun a _=>?_
  show (wake _ _ a).window=a.window
  unfold wake
  split
  . rfl
  . split <;> rfl
 rw [e1]
 unfold pumpP again
 rw [zrn,zph,zxx]
 exact yag h
theorem ykz (id:Int) (P:Int) (hP:0 <= P):∀ (q:List Queued) (s:Sender),(∀ x ∈ s.out,(x.chunk.data.length:Int) <= P) -> ∀ x ∈ (q.foldl (end1 id) s).out,(x.chunk.data.length:Int) <= P
 | [],s,h,x,hx=>h x hx
 | m :: q,s,h,x,hx=>by
  refine ykz id P hP q (end1 id s m) (fun y hy=>?_) x hx
  unfold end1 at hy
  split at hy
  . rcases List.mem_append.1 hy with hy | hy
    . exact h y hy
    . rw [List.mem_singleton] at hy;subst hy;simpa [endOf] using hP
  . exact h y hy
theorem yla (h:SI N s) (hd:DI s) (id:Nat):DI (giveS s id):=by
 have hw:=zbv h.cfg
 intro x hx
 rw [(zfq s id).1.config]
 rw [zix] at hx
 obtain ⟨y,hy,rfl⟩:=List.mem_map.1 hx
 have:=ykz id s.config.part (by omega) s.queue { s with fates:=s.fates.set id 3 } hd y hy
 unfold Sco.give
 split <;> exact this
theorem ydq:∀ (q:List Queued) {s:Sender},SI N s -> DI s -> (∀ m ∈ q,0 <= m.id /\ m.id < s.fates.length) -> DI (q.foldl expQ s)
 | [],_,_,h,_=>h
 | m :: q,s,hs,h,hq=>by
  obtain ⟨a,b⟩:=zzn hs (hq m (by simp))
  refine ydq q a ?_ fun x hx=>by rw [b];exact hq x (by simp [hx])
  unfold expQ
  split
  . have:=(hq m (by simp)).1
    rw [show m.id=((m.id.toNat:Nat):Int) by omega];exact yla hs h _
  . exact h
theorem ydr:∀ (q:List Sent) {s:Sender},SI N s -> DI s -> (∀ m ∈ q,0 <= m.id /\ m.id < s.fates.length) -> DI (q.foldl expX s)
 | [],_,_,h,_=>h
 | m :: q,s,hs,h,hq=>by
  obtain ⟨a,b⟩:=zzo hs (hq m (by simp))
  refine ydr q a ?_ fun x hx=>by rw [b];exact hq x (by simp [hx])
  unfold expX
  split
  . have:=(hq m (by simp)).1
    rw [show m.id=((m.id.toNat:Nat):Int) by omega];exact yla hs h _
  . exact h
theorem ylb (hs:SI N s) (h:DI s):DI (expire s):=by
 have h1:=ydq s.queue hs h fun m hm=>⟨(hs.queue m hm).id0,(hs.queue m hm).id1⟩
 obtain ⟨h2,-⟩:=ziy s.queue s hs fun m hm=>⟨(hs.queue m hm).id0,(hs.queue m hm).id1⟩
 exact ydr _ h2 h1 fun x hx=>⟨(h2.out x hx).id0,(h2.out x hx).id1⟩
theorem ylc {p:Pump} (h:DI p.s) (i path:Nat):DI (fly p i path).s:=by
 unfold fly
 split
 . exact h
 . rename_i x hx
   intro y hy
   rcases List.mem_or_eq_of_mem_set hy with hy | rfl
   . exact h y hy
   . exact h x (List.mem_of_getElem? hx)
theorem zpi {path:Nat}:∀ (l:List Nat) {p:Pump},DI p.s -> DI (l.foldl (zbq path) p).s
 | [],_,h=>h
 | i :: l,p,h=>by
  refine zpi l ?_
  unfold zbq
  split
  . exact h
  . split
    . exact ylc h _ _
    . exact h
theorem you (h:DI s) (k:Nat) (m:Queued) (hP:0 <= s.config.part):DI (cutS s k m):=by
 intro x hx
 have hx:x ∈ s.out++[_]:=hx
 show (x.chunk.data.length:Int) <= s.config.part
 rcases List.mem_append.1 hx with hx | hx
 . exact h x hx
 . rw [List.mem_singleton] at hx;subst hx
   show (((m.message.data.drop m.sent.toNat).take (many s m).toNat).length:Int) <= _
   rw [List.length_take]
   have:many s m <= s.config.part:=by unfold many;split <;> omega
   omega
theorem ygi {o:List (List Chunk)} (h:DI s):DI (forward ⟨s,o⟩).s:=by unfold forward;split <;> exact h
def FO (s0:Sender) (s:Sender):Prop:=∀ (i:Nat) a,s.paths[i]?=some a -> a.flight <= (Sco.fl i s0.out:Nat) \/ a.flight < a.window+s.config.part
theorem zxy {g:Sent -> Sent} (hg:∀ x,(g x).chunk=x.chunk /\ ((g x).state=1 -> x.state=1 /\ (g x).path=x.path)) (i:Int):∀ l:List Sent,Sco.fl i (l.map g) <= Sco.fl i l
 | []=>Nat.le_refl _
 | x :: l=>by
  have ih:=zxy hg i l
  rw [List.map_cons,zie,zie i x l,Sco.zjd,Sco.zjd]
  obtain ⟨h1,h2⟩:=hg x
  split
  . rename_i c
    obtain ⟨h3,h4⟩:=h2 c.1
    rw [if_pos ⟨h3,by rw [<- h4];exact c.2⟩,h1];omega
  . omega
theorem yld (id:Int) (i:Int):∀ (q:List Queued) (s:Sender),Sco.fl i (q.foldl (end1 id) s).out=Sco.fl i s.out
 | [],_=>rfl
 | m :: q,s=>by
  rw [List.foldl_cons,yld id i q]
  unfold end1
  split
  . show Sco.fl i (s.out++[_])=_
    rw [Sco.zvn,Sco.zjd,if_neg (by rintro ⟨h,-⟩;cases h)];rfl
  . rfl
theorem yle (s:Sender) (id:Nat) (i:Int):Sco.fl i (giveS s id).out <= Sco.fl i s.out:=by
 rw [zix]
 refine Nat.le_trans (zxy (fun x=>?_) i _) (Nat.le_of_eq (yld id i s.queue _))
 unfold Sco.give
 split
 . exact ⟨rfl,fun h=>by cases h⟩
 . exact ⟨rfl,fun h=>⟨h,rfl⟩⟩
theorem yds (i:Int):∀ (q:List Queued) (s:Sender),(∀ m ∈ q,0 <= m.id) -> Sco.fl i (q.foldl expQ s).out <= Sco.fl i s.out
 | [],_,_=>Nat.le_refl _
 | m :: q,s,h=>by
  refine Nat.le_trans (yds i q _ fun x hx=>h x (by simp [hx])) ?_
  unfold expQ
  split
  . rw [show m.id=((m.id.toNat:Nat):Int) by have:=h m (by simp);omega];exact yle s _ i
  . exact Nat.le_refl _
theorem ydt (i:Int):∀ (q:List Sent) (s:Sender),(∀ m ∈ q,0 <= m.id) -> Sco.fl i (q.foldl expX s).out <= Sco.fl i s.out
 | [],_,_=>Nat.le_refl _
 | m :: q,s,h=>by
  refine Nat.le_trans (ydt i q _ fun x hx=>h x (by simp [hx])) ?_
  unfold expX
  split
  . rw [show m.id=((m.id.toNat:Nat):Int) by have:=h m (by simp);omega];exact yle s _ i
  . exact Nat.le_refl _
theorem ylf (h:SI N s):FO s (expire s):=by
 intro i a ha
 left
 obtain ⟨h2,-⟩:=ziy s.queue s h fun m hm=>⟨(h.queue m hm).id0,(h.queue m hm).id1⟩
 rw [(zid h).1.flight i a ha]
 have e1:=ydt i (s.queue.foldl expQ s).out (s.queue.foldl expQ s) fun x hx=>(h2.out x hx).id0
 have e2:=yds i s.queue s fun m hm=>(h.queue m hm).id0
 have e3:Sco.fl i (expire s).out <= Sco.fl i s.out:=Nat.le_trans e1 e2
 omega
theorem yov {s0:Sender} {p:Pump} (h:SI N p.s) (hd:DI p.s) (ho:FO s0 p.s) {i path:Nat} (hop:opened p.s path=true):FO s0 (fly p i path).s:=by
 obtain ⟨t,o⟩:=p
 unfold fly
 cases hx:t.out[i]? with
 | none=>simp only [hx];exact ho
 | some x =>
  simp only [hx]
  intro j a ha
  have hdx:=hd x (List.mem_of_getElem? hx)
  have htot:=h.total
  have hfew:=h.few
  rcases zgw ha with ⟨-,ha⟩ | ⟨rfl,w,hw,rfl⟩
  . exact ho j a ha
  . right
    have hfl:=h.flight j w hw
    have hle:=Sco.fl_le (j:Int) t.out
    unfold opened at hop
    dsimp only at hop
    rw [hw] at hop
    have hop:=of_decide_eq_true hop
    have hdx:(x.chunk.data.length:Int) <= t.config.part:=hdx
    have h16:=(h.out x (List.mem_of_getElem? hx)).data
    show W (w.flight+x.chunk.data.length) < w.window+t.config.part
    dsimp only at hfl htot
    rw [W_fit (by omega) (by omega)];omega
theorem ylg {s0:Sender} {p:Pump} (h:SI N p.s) (hd:DI p.s) (ho:FO s0 p.s) (path i:Nat):FO s0 (zbq path p i).s:=by
 unfold zbq
 split
 . exact ho
 . split
   . rename_i c;exact yov h hd ho c.2
   . exact ho
theorem zxz {s0:Sender} {path:Nat}:∀ (l:List Nat) {p:Pump},SI N p.s -> DI p.s -> FO s0 p.s -> path < p.s.paths.length -> FO s0 (l.foldl (zbq path) p).s
 | [],_,_,_,h,_=>h
 | i :: l,p,hs,hd,h,hp=>by
  obtain ⟨a,b⟩:=zif hs hp i
  exact zxz l a (zpi [i] hd) (ylg hs hd h path i) (by rw [b];exact hp)
theorem ydu {s0:Sender}:∀ (n:Nat) {p:Pump},SI N p.s -> DI p.s -> FO s0 p.s -> FO s0 (nexts n p).s
 | 0,_,_,_,h=>h
 | n+1,p,hs,hd,h=>by
  rw [nexts]
  cases hq:next p with
  | none=>exact h
  | some q =>
   have hs2:=zjr hs hq
   obtain ⟨k,m,hm,hop,rfl⟩:=yah hq
   have hP:=(zbv hs.cfg)
   have hc:=ycq hs hm
   have hcd:=you hd k m (by omega)
   have hcf:FO s0 (cutS p.s k m):=h
   exact ydu n hs2 (ylc (p:=⟨cutS p.s k m,p.out⟩) hcd _ _) (yov (p:=⟨cutS p.s k m,p.out⟩) hc hcd hcf hop)
theorem ydv:∀ (n:Nat) {p:Pump},SI N p.s -> DI p.s -> DI (nexts n p).s
 | 0,_,_,h=>h
 | n+1,p,hs,h=>by
  rw [nexts]
  cases hq:next p with
  | none=>exact h
  | some q =>
   have hs2:=zjr hs hq
   obtain ⟨k,m,-,-,rfl⟩:=yah hq
   exact ydv n hs2 (ylc (p:=⟨cutS p.s k m,p.out⟩) (you h k m (by have:=zbv hs.cfg;omega)) _ _)
theorem ylh (h:SI N s) (hd:DI s):FO s (pump s).1 /\ DI (pump s).1:=by
 have s1:=(zid h).1
 have d1:=ylb h hd
 have f1:=ylf h
 have s2:=zes (o:=List.replicate s.paths.length []) s1
 have d2:=ygi (o:=List.replicate s.paths.length []) d1
 have f2:FO s (forward ⟨expire s,List.replicate s.paths.length []⟩).s:=by
  unfold forward
  split
  . exact f1
  . intro i a ha
    rcases zgw ha with ⟨-,ha⟩ | ⟨rfl,w,hw,rfl⟩
    . exact f1 i a ha
    . have:=f1 _ w hw
      unfold alarm
      split <;> exact this
 have s3:=zkq s2
 have d3:DI (again (forward ⟨expire s,List.replicate s.paths.length []⟩)).s:=zpi _ d2
 have f3:FO s (again (forward ⟨expire s,List.replicate s.paths.length []⟩)).s:=zxz _ s2 d2 f2 (choose_lt' s2)
 have f4:=ydu 61 s3 d3 f3
 have d4:=ydv 61 s3 d3
 refine ⟨fun i a ha=>?_,d4⟩
 have ha:((pumpP s).s.paths.map (wake (pumpP s).s (Sco.point (pumpP s).s.out (pumpP s).s.cum).1))[i]?=some a:=ha
 rw [List.getElem?_map] at ha
 cases hb:(pumpP s).s.paths[i]? with
 | none=>rw [hb] at ha;cases ha
 | some b =>
  rw [hb] at ha;cases ha
  have:=f4 i b hb
  show (wake _ _ b).flight <= _ \/ (wake _ _ b).flight < (wake _ _ b).window+(pumpP s).s.config.part
  unfold wake
  split
  . exact this
  . split <;> exact this
def WI (K:Int) (s:Sender):Prop:=∀ w ∈ wins s,0 <= w /\ w <= K
theorem WI.more {K L:Int} (h:WI K s) (hk:K <= L):WI L s:=fun w hw=>by have:=h w hw;omega
theorem yli {p:Path} {n part:Int} {mv:Bool} {K:Int} (hn:0 < n) (hp:1 <= part /\ part <= 16) (hK:K <= 2 ^ 40) (h:0 <= p.window /\ p.window <= K):0 <= (Paths.acked p n part mv).window /\ (Paths.acked p n part mv).window <= K+16:=by
 unfold Paths.acked
 split
 . omega
 . split
   . dsimp only;omega
   split
   . dsimp only;rw [W_fit (by omega) (by omega)];omega
   split
   . dsimp only;rw [W_fit (by omega) (by omega)];omega
   . dsimp only;omega
theorem ygj {p:Path} {part K:Int} (h:0 <= p.window /\ p.window <= K) (hK:K <= 2 ^ 41):0 <= (Paths.halved p part).window /\ (Paths.halved p part).window <= K:=by
 unfold Paths.halved
 dsimp only
 have e1:0 <= p.window.tdiv 2 /\ p.window.tdiv 2 <= p.window:=by
  rw [Int.tdiv_eq_ediv_of_nonneg h.1];omega
 rw [W_fit (z:=p.window.tdiv 2) (by omega) (by omega)]
 omega
theorem yqn {K:Int} (hs:SI N s) (h:WI K s) (hK:K <= 2 ^ 40) (hK0:0 <= K) (c:Chunk):WI (K+16) (hear s c):=by
 have hw:=zbv hs.cfg
 unfold hear
 split
 . exact h.more (by omega)
 split
 . exact h.more (by omega)
 rw [zhg]
 have hT:WI (K+16) (zgv s c (Sco.sack s.out s.cum c s.paths.length)):=by
  intro w hw2
  unfold zgv at hw2
  rw [zmr] at hw2
  have hw2:w ∈ (comeP s.paths s.config.part (decide ((Sco.sack s.out s.cum c s.paths.length).2.1 > s.cum)) (Sco.sack s.out s.cum c s.paths.length).2.2.1).map Path.window:=hw2
  obtain ⟨a,ha,rfl⟩:=List.mem_map.1 hw2
  unfold comeP at ha
  obtain ⟨i,hi⟩:=List.getElem?_of_mem ha
  rw [List.getElem?_mapIdx] at hi
  cases hb:s.paths[i]? with
  | none=>rw [hb] at hi;cases hi
  | some b =>
   rw [hb] at hi;cases hi
   have hbw:=h b.window (List.mem_map.2 ⟨b,List.mem_of_getElem? hb,rfl⟩)
   split
   . rename_i c1
     exact yli c1 ⟨by omega,by omega⟩ hK hbw
   . exact ⟨hbw.1,Int.le_trans hbw.2 (by omega)⟩
 have hU:WI (K+16) (zeg s.config.part (zgv s c (Sco.sack s.out s.cum c s.paths.length)) (Sco.sack s.out s.cum c s.paths.length).2.2.2):=by
  unfold zeg
  split
  . exact hT
  . split
    . intro w hw2
      obtain ⟨a,ha,rfl⟩:=List.mem_map.1 (show w ∈ (setAt _ _ _).map Path.window from hw2)
      obtain ⟨i,hi⟩:=List.getElem?_of_mem ha
      rcases zgw hi with ⟨-,hi⟩ | ⟨-,b,hb,rfl⟩
      . exact hT _ (List.mem_map.2 ⟨a,List.mem_of_getElem? hi,rfl⟩)
      . exact ygj (hT b.window (List.mem_map.2 ⟨b,List.mem_of_getElem? hb,rfl⟩)) (by omega)
    . exact hT
 show WI (K+16) (zdg _ _)
 unfold zdg
 split <;> exact hU
theorem ynw {K part:Int} (h:WI K s) (hp:0 <= part /\ part <= K) (i:Nat):WI K (late1 part s i):=by
 unfold late1
 split
 . exact h
 split
 . exact h
 have h2:∀ q:Path,∀ w ∈ (s.paths.set i (Paths.late q part)).map Path.window,0 <= w /\ w <= K:=fun q w hw=>by
  obtain ⟨a,ha,rfl⟩:=List.mem_map.1 hw
  rcases List.mem_or_eq_of_mem_set ha with ha | ha
  . exact h _ (List.mem_map.2 ⟨a,ha,rfl⟩)
  . rw [ha];exact hp
 dsimp only
 split <;> exact h2 _
theorem ydw {K part:Int} (hp:0 <= part /\ part <= K):∀ (l:List Nat) {s:Sender},WI K s -> WI K (l.foldl (late1 part) s)
 | [],_,h=>h
 | i :: l,_,h=>ydw hp l (ynw h hp i)
theorem ylj {K:Int} (hs:SI N s) (h:WI K s) (hK:16 <= K):WI K (tick s):=by
 have hw:=zbv hs.cfg
 exact ydw ⟨by omega,by omega⟩ _ (s:={ s with clock:=W (s.clock+1) }) h
theorem ylk {K:Int} (hs:SI N s) (h:WI K s):WI K (pump s).1:=by unfold WI;rw [yky hs];exact h
theorem yrp {c:Config} (hw:wrgS c=0):WI 32 (newS c):=by
 have:=zbv hw
 intro w hw2
 obtain ⟨a,ha,rfl⟩:=List.mem_map.1 (show w ∈ (List.replicate _ _).map Path.window from hw2)
 rw [List.eq_of_mem_replicate ha]
 show 0 <= W (2 * c.part) /\ W (2 * c.part) <= 32
 rw [W_fit (by omega) (by omega)];omega
theorem yqo (hs:SI N s) (h:DI s) (c:Chunk):DI (hear s c):=by
 intro x hx
 rw [ycy]
 unfold hear at hx
 split at hx
 . exact h x hx
 split at hx
 . exact h x hx
 rename_i c1 c2
 rw [zhg] at hx
 obtain ⟨g,hg,e⟩:=yjf (np:=s.paths.length) (c:=c) hs.nums c2
 have h1:∀ b u,(zdg b u).out=u.out:=fun b u=>by unfold zdg;split <;> rfl
 have h2:∀ p t l,(zeg p t l).out=t.out:=fun p t l=>by
  unfold zeg
  split
  . rfl
  . split <;> rfl
 have hx:x ∈ (zdg (decide ((Sco.sack s.out s.cum c s.paths.length).2.1 > s.cum)) (zeg s.config.part (zgv s c (Sco.sack s.out s.cum c s.paths.length)) (Sco.sack s.out s.cum c s.paths.length).2.2.2)).out:=hx
 rw [h1,h2] at hx
 have hx:x ∈ (Sco.sack s.out s.cum c s.paths.length).1:=hx
 rw [e] at hx
 obtain ⟨y,hy,rfl⟩:=List.mem_map.1 hx
 rw [(hg y).2.2.2];exact h y (List.mem_of_mem_drop hy)
theorem ynx (part:Int) (h:DI s) (i:Nat):DI (late1 part s i):=by
 unfold late1
 split
 . exact h
 split
 . exact h
 have h2:∀ x ∈ s.out.map (Sco.late i),(x.chunk.data.length:Int) <= s.config.part:=fun x hx=>by
  obtain ⟨y,hy,rfl⟩:=List.mem_map.1 hx
  have:=h y hy
  unfold Sco.late
  split <;> exact this
 dsimp only
 split <;> exact h2
theorem ydx (part:Int):∀ (l:List Nat) {s:Sender},DI s -> DI (l.foldl (late1 part) s)
 | [],_,h=>h
 | i :: l,_,h=>ydx part l (ynx part h i)
theorem yll (h:DI s):DI (tick s):=ydx _ _ (s:={ s with clock:=W (s.clock+1) }) h
end
end Snd
namespace Ln
open Ser Snd
set_option maxHeartbeats 4000000
set_option maxRecDepth 100000
set_option linter.unusedSimpArgs false
def FI (K:Int) (l:Line):Prop:=DI l.sender /\ WI K l.sender
theorem FI.more {K L:Int} {l:Line} (h:FI K l) (hk:K <= L):FI L l:=⟨h.1,h.2.more hk⟩
theorem ydy {back:Bool}:∀ (cs:List Chunk) {N M:Nat} {K:Int} {x:Line × Bool},LI N M x.1 -> M+Rcv.wts cs <= 2 ^ 20 -> FI K x.1 -> 0 <= K -> K+16 * cs.length <= 2 ^ 40 -> FI (K+16 * cs.length) (cs.foldl (hear1 back) x).1
 | [],_,_,_,_,_,_,h,_,_=>h.more (by simp)
 | c :: cs,N,M,K,x,hl,hM,h,h0,hK=>by
  rw [Rcv.zhj] at hM
  rw [List.length_cons] at hK
  have h1:FI (K+16) (hear1 back x c).1:=by
   unfold hear1
   split
   . exact ⟨yqo hl.snd h.1 c,yqn hl.snd h.2 (by omega) h0 c⟩
   split
   . exact h.more (by omega)
   split
   . exact h.more (by omega)
   . exact h.more (by omega)
  have:=ydy (back:=back) cs (ztz (back:=back) (c:=c) hl (by omega)) (by omega) h1 (by omega) (by push_cast at hK;omega)
  rw [List.foldl_cons,List.length_cons]
  exact this.more (by push_cast;omega)
theorem wts_len':∀ cs:List Chunk,cs.length <= Rcv.wts cs
 | []=>Nat.zero_le _
 | c :: cs=>by
  have:=wts_len' cs
  rw [Rcv.zhj,List.length_cons]
  have:Rcv.wt c=c.data.length+c.skips.length+1:=rfl
  omega
theorem yqp {N M:Nat} {K:Int} {l:Line} (hl:LI N M l) (h:FI K l) (h0:0 <= K) (hK:K+1920 <= 2 ^ 40) {p:Packet} (hp:p.bytes.length <= 120) (hM:M+120 <= 2 ^ 20):FI (K+1920) (come l p):=by
 have hw:=(zpc p.bytes).1
 have hn:=wts_len' (Pck.pparse p.bytes).1
 have h2:FI (K+1920) (zgf l p).1:=(ydy (back:=p.back) (Pck.pparse p.bytes).1 (x:=(l,false)) hl (by omega) h h0 (by omega)).more (by omega)
 unfold come
 split
 . exact h.more (by omega)
 split
 . unfold told;split <;> exact h2
 . exact h2
theorem zpj {N:Nat} {K:Int} {l:Line} (hs:SI N l.sender) (h:FI K l):FI K (emit l):=⟨(ylh hs h.1).2,ylk hs h.2⟩
theorem yrq {N M:Nat} {K:Int} {l:Line} (hl:LI N M l) (h:FI K l) (h0:16 <= K) (hK:K+1920 <= 2 ^ 40) (x:Step) (hN:N+1 <= 2 ^ 20) (hM:M+120 <= 2 ^ 20):FI (K+1920) (doS l x).1:=by
 unfold doS
 split
 . split
   . rename_i e
     exact (zpj (l:={ l with sender:=sendS l.sender x.message }) (zjq hl.snd e hN) h).more (by omega)
   . exact h.more (by omega)
 split
 . split
   . exact h.more (by omega)
   split
   . exact h.more (by omega)
   rename_i p hp
   have hb:=hl.bytes p (List.mem_of_getElem? hp)
   split
   . exact (zpj (l:={ l with way:=putW l.way [p] }) hl.snd h).more (by omega)
   . split
     . have hli:LI N M { l with way:=l.way.eraseIdx x.n.toNat }:=⟨hl.snd,hl.rcv,hl.small,by show (l.way.eraseIdx _).length <= 40;have:=hl.way;rw [List.length_eraseIdx];split <;> omega,fun q hq=>hl.bytes q (List.mem_of_mem_eraseIdx hq)⟩
       exact zpj (zpd hli hb hM).snd (yqp hli h (by omega) hK hb hM)
     . exact (zpj (l:={ l with way:=l.way.eraseIdx x.n.toNat }) hl.snd h).more (by omega)
 split
 . exact (zpj (l:={ l with sender:=tick l.sender }) (zlv hl.snd) ⟨yll h.1,ylj hl.snd h.2 h0⟩).more (by omega)
 . exact h.more (by omega)
def zft (l:Line) (x:Step):Sender:=if x.kind=1 then (if zdj l.sender x.message=0 then sendS l.sender x.message else l.sender) else if x.kind=5 then tick l.sender else l.sender
end Ln
end Go.HL
namespace Go.HL
open Go.Proofs
namespace Snd
open Ser
set_option maxHeartbeats 8000000
set_option maxRecDepth 100000
set_option linter.unusedSimpArgs false
def cfg9:Config:=⟨1,4,40,1,1,3,0⟩
def msg9:Message:=⟨0,false,0,0,[104,101,108,108,111]⟩
def snk9:Chunk:=⟨2,1,0,0,0,false,false,[],[],100,[]⟩
def sn0:Sender:=newS cfg9
def sn1:Sender:=sendS sn0 msg9
def sn2:Sender:=(pump sn1).1
def sn3:Sender:=hear sn2 snk9
theorem yow:SI 0 sn0:=yom (by decide)
theorem yox:SI 1 sn1:=zjq yow (by decide +kernel) (by decide)
theorem ydz:SI 1 sn2:=zzp yox
theorem ygk {S0 S1 S2 S3 S4:Sender} {k:Packet} (p0:FunOK Tryz.prog 26 [cfg9.hv] zad (.tup [S0.hv,i64 0]) zad) (p1:FunOK Tryz.prog 31 [S0.hv,msg9.hv] zad (.tup [S1.hv,i64 0,i64 0]) zad)
 (p2:FunOK Tryz.prog 39 [S1.hv] zad (.tup [S2.hv,.p (.sl 3 ([k].map Packet.row))]) zad) (p3:FunOK Tryz.prog 34 [S2.hv,snk9.hv] zad S3.hv zad) (p4:FunOK Tryz.prog 36 [S2.hv] zad S4.hv zad)
 (p5:FunOK Tryz.prog 38 [S3.hv] zad (hbool true) zad) (p6:FunOK Tryz.prog 38 [S2.hv] zad (hbool false) zad) (p7:FunOK Tryz.prog 33 [S2.hv] zad S2.hv zad)
 (p8:FunOK Tryz.prog 29 [(⟨0,0,0,0,0,0,0⟩:Config).hv] zad (i64 3) zad)
 (e1:S1.queue.length=1) (e2:S2.out.length=2) (e3:S3.out.length=0) (e4:S3.fates=[2]) (e5:S4.clock=1):FunOK Tryz.prog 42 [] zad (hbool true) zad:=by
 refine zai mixed Tryz.func42 (by decide) ?_
 conv=>whnf
 (refine cP ?_;refine dL p0 ?_)
 ((refine zaa ?_ ?_;(· first | kernel_rfl | exact om);conv=>whnf);try (refine hcut.go ?_;conv=>whnf))
 (refine cP ?_;refine dL p1 ?_)
 rw [show (((S1.queue.map Queued.row).length:Int) != 1)=false by rw [List.length_map,e1];rfl]
 conv=>whnf
 repeat (refine hcut.go ?_;conv=>whnf)
 (refine cP ?_;refine dL p2 ?_)
 (refine cP ?_;refine dL p3 ?_)
 (refine cP ?_;refine dL p4 ?_)
 rw [show (((S2.out.map Sent.row).length:Int) == 2)=true by rw [List.length_map,e2];rfl]
 conv=>whnf
 rw [show (((S3.out.map Sent.row).length:Int) == 0)=true by rw [List.length_map,e3];rfl]
 refine zac rfl ?_;conv=>whnf
 rw [show (((S3.fates.map fun n:Int=>[pi n]).length:Int) == 1)=true by rw [List.length_map,e4];rfl]
 refine zac rfl ?_;conv=>whnf
 refine zbo (r:=[pi 2]) (by decide) (by rw [e4];rfl) ?_;conv=>whnf
 rw [show (S4.clock == 1)=true by rw [e5];rfl]
 refine zac rfl ?_;conv=>whnf
 (refine cL ?_;refine dL p5 ?_)
 (refine cL ?_;refine dL p6 ?_)
 (refine cP ?_;refine dL p7 ?_)
 rw [show (((S2.out.map Sent.row).length:Int) == 2)=true by rw [List.length_map,e2];rfl]
 refine zac rfl ?_;conv=>whnf
 ((refine zax ?_;(conv=>whnf);refine ⟨_,p8,rfl,?_⟩;conv=>whnf);try (refine hcut.go ?_;conv=>whnf))
 try rfl
theorem yai:FunOK Tryz.prog 42 [] zad (hbool true) zad:=by
 have p0:=zsq cfg9
 have p1:=yiu sn0 msg9 yow.fit (by decide)
 have p2:=zwe sn1 yox.pf (by show inI 40;unfold inI;decide) (by decide)
 have p3:=yja sn2 snk9 ydz.fit ydz.right (by decide)
 have p4:=yiv sn2 ydz.fit
 have p5:=zwf sn3
 have p6:=zwf sn2
 have p7:=yit sn2 ydz.fit
 have p8:=zwg ⟨0,0,0,0,0,0,0⟩
 rw [show newP cfg9=(sn0,0) by kernel_rfl] at p0
 rw [show sendR sn0 msg9=(sn1,0,0) by kernel_rfl] at p1
 rw [show calm sn3=true by decide +kernel] at p5
 rw [show calm sn2=false by decide +kernel] at p6
 rw [show wrgS ⟨0,0,0,0,0,0,0⟩=3 by decide +kernel] at p8
 obtain ⟨k,hk⟩:∃ k,(pump sn1).2=[k]:=List.length_eq_one_iff.1 (by decide +kernel)
 rw [hk] at p2
 exact ygk p0 p1 p2 p3 p4 p5 p6 p7 p8 (by decide +kernel) (by decide +kernel) (by decide +kernel) (by decide +kernel) (by decide +kernel)
abbrev sndL (s:Sender):HSlot:=.live (.cells 32 s.cells)
end Snd
end Go.HL
namespace Go.HL
open Go.Proofs
namespace Ln
open Ser Snd
set_option maxHeartbeats 8000000
set_option maxRecDepth 100000
set_option linter.unusedSimpArgs false
theorem zya {back:Bool}:∀ (cs:List Chunk) (x:Line × Bool),(cs.foldl (hear1 back) x).1.sender.config=x.1.sender.config
 | [],_=>rfl
 | c :: cs,x=>by
  rw [List.foldl_cons,zya cs]
  unfold hear1
  split
  . exact ycy _ _
  split
  . rfl
  split <;> rfl
theorem yny (l:Line) (p:Packet):(come l p).sender.config=l.sender.config:=by
 have h2:(zgf l p).1.sender.config=l.sender.config:=zya (back:=p.back) _ (l,false)
 unfold come
 split
 . rfl
 split
 . unfold told;split <;> exact h2
 . exact h2
theorem zky {N:Nat} {l:Line} (h:SI N l.sender):(emit l).sender.config=l.sender.config:=ztq h
theorem yqq {N M:Nat} {l:Line} (hl:LI N M l) (x:Step) (hN:N+1 <= 2 ^ 20) (hM:M+120 <= 2 ^ 20):(doS l x).1.sender.config=l.sender.config:=by
 unfold doS
 split
 . split
   . rename_i e
     exact zky (l:={ l with sender:=sendS l.sender x.message }) (zjq hl.snd e hN)
   . rfl
 split
 . split
   . rfl
   split
   . rfl
   rename_i p hp
   have hb:=hl.bytes p (List.mem_of_getElem? hp)
   split
   . exact zky (l:={ l with way:=putW l.way [p] }) hl.snd
   . split
     . have hli:LI N M { l with way:=l.way.eraseIdx x.n.toNat }:=⟨hl.snd,hl.rcv,hl.small,by show (l.way.eraseIdx _).length <= 40;have:=hl.way;rw [List.length_eraseIdx];split <;> omega,fun q hq=>hl.bytes q (List.mem_of_mem_eraseIdx hq)⟩
       exact (zky (zpd hli hb hM).snd).trans (yny _ _)
     . exact zky (l:={ l with way:=l.way.eraseIdx x.n.toNat }) hl.snd
 split
 . exact (zky (l:={ l with sender:=tick l.sender }) (zlv hl.snd)).trans (ycx _)
 . rfl
theorem ylm {N M:Nat} {l:Line} (hl:LI N M l) (x:Step) (hN:N+1 <= 2 ^ 20):SI (N+1) (zft l x):=by
 unfold zft
 split
 . split
   . rename_i e;exact zjq hl.snd e hN
   . exact hl.snd.mono (by omega) hN
 split
 . exact zlv (hl.snd.mono (by omega) hN)
 . exact hl.snd.mono (by omega) hN
theorem ygl (l:Line) (x:Step):(zft l x).config=l.sender.config:=by
 unfold zft
 split
 . split <;> rfl
 split
 . exact ycx _
 . rfl
theorem yln {N M:Nat} {K:Int} {l:Line} (hl:LI N M l) (h:FI K l) (hK:16 <= K) (x:Step):DI (zft l x) /\ WI K (zft l x):=by
 unfold zft
 split
 . split <;> exact h
 split
 . exact ⟨yll h.1,ylj hl.snd h.2 hK⟩
 . exact h
theorem yaj {N M:Nat} (l:Line) (x:Step) (h:LI N M l) (hx:x.message.data.length < 2 ^ 38):FunOK Tryz.prog 45 [l.hv,x.hv] zad (zft l x).hv zad:=by
 generalize hT:zft l x=T
 rw [zft] at hT
 refine zai mixed Tryz.func45 (by decide) ?_
 conv=>whnf
 (try (refine hcut.go ?_;conv=>whnf))
 by_cases c1:x.kind=1
 case pos =>
  rw [if_pos c1] at hT
  refine zac (beq_iff_eq.2 c1) ?_;conv=>whnf
  have ps:=Snd.zrk l.sender x.message h.snd.fit hx
  by_cases e1:Snd.zdj l.sender x.message=0
  case pos =>
   rw [if_pos e1] at hT
   rw [Snd.zkp e1] at ps
   (refine cP ?_;refine dL ps ?_)
   subst hT
   try rfl
  case neg =>
   rw [if_neg e1] at hT
   rw [Snd.zgd rfl e1] at ps
   (refine cP ?_;refine dL ps ?_)
   refine zab (beq_eq_false_iff_ne.2 e1) ?_;conv=>whnf
   repeat (refine hcut.go ?_;conv=>whnf)
   subst hT
   try rfl
 rw [if_neg c1] at hT
 refine zab (beq_eq_false_iff_ne.2 c1) ?_;conv=>whnf
 (try (refine hcut.go ?_;conv=>whnf))
 by_cases c5:x.kind=5
 case pos =>
  rw [if_pos c5] at hT
  refine zac (beq_iff_eq.2 c5) ?_;conv=>whnf
  (refine cP ?_;refine dL (Snd.zqw l.sender h.snd) ?_)
  subst hT
  try rfl
 case neg =>
  rw [if_neg c5] at hT
  refine zab (beq_eq_false_iff_ne.2 c5) ?_;conv=>whnf
  repeat (refine hcut.go ?_;conv=>whnf)
  subst hT
  try rfl
end Ln
end Go.HL
namespace Go.HL
open Go.Proofs
namespace Ln
open Ser Snd
set_option maxHeartbeats 8000000
set_option maxRecDepth 100000
set_option linter.unusedSimpArgs false
theorem flightlaw (c:Config) (l:List Step) (hb:∀ x ∈ l,x.message.data.length < 2 ^ 38):FunOK Tryz.prog 6 [c.hv,stps l] zad (hbool true) zad:=by
 refine zai mixed Tryz.func6 (by decide) ?_
 conv=>whnf
 (refine cL ?_;refine dL yai ?_)
 have pr:=ygh c
 by_cases c3:Snd.wrgS c=0
 case neg =>
  rw [show newLP c=(noL,Snd.wrgS c) from if_neg c3] at pr
  dsimp only at pr
  generalize Snd.wrgS c=e at c3 pr
  (refine cP ?_;refine dL pr ?_)
  refine zac (bne_iff_ne.2 c3) ?_;conv=>whnf
  try rfl
 rw [show newLP c=(newL c,0) from if_pos c3] at pr
 have hw:=zbv c3
 have hn0:=yqh c3
 have hsl0:Snd.SL (newL c).sender:=Snd.yqm c3
 have hc0:(newL c).sender.config=c:=rfl
 have hf0:FI 32 (newL c):=⟨fun x hx=>by simp [newL,newS] at hx,yrp c3⟩
 dsimp only at pr
 generalize newL c=y0 at pr hn0 hsl0 hc0 hf0
 (refine cP ?_;refine dL pr ?_)
 by_cases c2:l.length > 200
 case pos =>
  refine zac (decide_eq_true (by rw [List.length_map];omega)) ?_;conv=>whnf
  try rfl
 refine zab (decide_eq_false (by rw [List.length_map];omega)) ?_;conv=>whnf
 (try (refine hcut.go ?_;conv=>whnf))
 refine ⟨{ w:Line × List Step × List Step // l=w.2.1++w.2.2 /\ LI w.2.1.length (120 * w.2.1.length) w.1 /\ Snd.SL w.1.sender /\ w.1.sender.config=c /\ FI (32+1920 * w.2.1.length) w.1 },fun | ⟨(y,A,B),_⟩=>hs 107 [(2,.ptr 2 0),(5,.ptr 5 0),(30,stps l),(31,i64 l.length),(32,i64 A.length)] [(2,.live (.cells 24 c.cells)),(5,lnL y)],fun w=>w.1.2.2.length,⟨(y0,[],l),rfl,hn0,hsl0,hc0,hf0⟩,?_,?_⟩
 . exact (hle_Q [(2,some 2),(5,some 5)])
 rintro ⟨⟨y,A,B⟩,k1,k3,k4,k5,k6⟩
 dsimp only at k1 k3 k4 k5 k6
 refine zbl fun Q hQ=>?_
 conv=>whnf
 cases B with
 | nil =>
  have hz:=zaz k1
  refine sN ?_
  refine hQ _ _ ?_;conv=>whnf
  try rfl
 | cons st B =>
  have hz:=zat k1
  have hxd:=hb st (zfp k1)
  have hcd:=yqq k3 st (by omega) (by omega)
  have hli2:=yrj k3 st (by omega) (by omega)
  have hsl2:=yro k3 k4 st (by omega) (by omega)
  have hfi2:=yrq k3 k6 (by omega) (by omega) st (by omega) (by omega)
  have pd:=ynv y st k3 k4 (by omega) (by omega) hxd
  have hbs:=ylm k3 st (by omega)
  have hbc:=ygl y st
  have hbf:=yln k3 k6 (by omega) st
  have pb:=yaj y st k3 hxd
  rw [k5] at hcd hbc
  generalize doS y st=D at hcd hli2 hsl2 hfi2 pd
  obtain ⟨z,q⟩:=D
  dsimp only at hcd hli2 hsl2 hfi2 pd
  generalize zft y st=b at hbs hbc hbf pb
  have pp:=zwe b hbs.pf (by rw [hbc];unfold inI;omega) (by have:=hbs.npaths;rw [hbc] at this;omega)
  have prb:=fun i:Int=>Sco.zig b.out i hbs.fit.out
  have hps:=zzp hbs
  have hfo:=(ylh hbs hbf.1).1
  have hpc:=ztq hbs
  have hwi:=ylk hbs hbf.2
  rw [hbc] at hpc
  generalize pump b=PP at pp hps hfo hpc hwi
  obtain ⟨t,ks⟩:=PP
  dsimp only at pp hps hfo hpc hwi
  have prt:=fun i:Int=>Sco.zig t.out i hps.fit.out
  have hnp2:t.paths.length <= 2:=by have e1:=hps.npaths;rw [hpc] at e1;omega
  have hnp:t.paths.length=z.sender.paths.length:=by
   have e1:=hps.npaths
   have e2:=hli2.snd.npaths
   rw [hpc] at e1;rw [hcd] at e2;omega
  refine sT ?_
  refine zaj k1 rfl ?_;conv=>whnf
  (try (refine hcut.go ?_;conv=>whnf))
  (refine cP ?_;refine dL pd ?_)
  (refine cP ?_;refine dL pb ?_)
  (refine cP ?_;refine dL pp ?_)
  refine zab (by rw [List.length_map,List.length_map];simp [hnp]) ?_;conv=>whnf
  (try (refine hcut.go ?_;conv=>whnf))
  refine ⟨{ w:List Path × List Path // t.paths=w.1++w.2 },fun | ⟨(X,Y),_⟩=>hs 107 [(2,.ptr 2 0),(5,.ptr 5 0),(8,.ptr 8 0),(9,.ptr 9 0),(11,.ptr 11 0),(30,stps l),(31,i64 l.length),(32,i64 A.length),(58,pths t.paths),(59,i64 t.paths.length),(60,i64 X.length)] [(2,.live (.cells 24 c.cells)),(5,lnL y),(8,.live (.cells 50 st.cells)),(9,lnL z),(11,sndL t)],fun w=>w.1.2.length,⟨([],t.paths),rfl⟩,?_,?_⟩
  . exact (hle_Q [(2,some 2),(5,some 5),(8,some 8),(9,some 9),(11,some 11)])
  rintro ⟨⟨X,Y⟩,g⟩
  dsimp only at g
  refine zbl fun Q2 hQ2=>?_
  conv=>whnf
  cases Y with
  | nil =>
   have gz:=zaz g
   refine sN ?_
   refine hQ2 _ _ ?_;conv=>whnf
   refine sF ?_
   refine hQ _ _ ?_;conv=>whnf
   exact ⟨⟨(z,A++[st],B),zae k1,by rw [List.length_append,List.length_singleton,show 120 * (A.length+1)=120 * A.length+120 by omega];exact hli2,hsl2,hcd,by rw [List.length_append,List.length_singleton];exact hfi2.more (by push_cast;omega)⟩,(hle_Q [(2,some 2),(5,some 5)]),by simp⟩
  | cons w Y =>
  have gz:=zat g
  have hwt:t.paths[X.length]?=some w:=by rw [g];simp
  have hfl:=hps.flight X.length w hwt
  have hwf:=hfo X.length w hwt
  have hwn:=hwi w.window (List.mem_map.2 ⟨w,List.mem_of_getElem? hwt,rfl⟩)
  rw [hpc] at hwf
  refine sT ?_
  refine zaj g rfl ?_;conv=>whnf
  (try (refine hcut.go ?_;conv=>whnf))
  (refine cP ?_;refine dL pb ?_)
  (refine cP ?_;refine dL (prb X.length) ?_)
  rw [show decide (w.window < 0)=false from decide_eq_false (by omega)]
  conv=>whnf
  refine zab (decide_eq_false (by omega)) ?_;conv=>whnf
  (refine cL ?_;refine dLm (prt X.length) ?_)
  rw [show (w.flight != (Sco.fl X.length t.out:Int))=false by rw [hfl];exact bne_self_eq_false _]
  conv=>whnf
  by_cases d1:w.flight > (Sco.fl X.length b.out:Int)
  case neg =>
   refine zab (decide_eq_false d1) ?_;conv=>whnf
   refine sD ?_
   (try (refine hcut.go ?_;conv=>whnf))
   refine sF ?_
   refine hQ2 _ _ ?_;conv=>whnf
   exact ⟨⟨(X++[w],Y),zae g⟩,(hle_Q [(2,some 2),(5,some 5),(8,some 8),(9,some 9),(11,some 11)]),by simp⟩
  case pos =>
   refine zac (decide_eq_true d1) ?_;conv=>whnf
   refine zan (z:=w.window+c.part) (W_fit (by omega) (by omega)) ?_;conv=>whnf
   rw [show decide (w.flight >= w.window+c.part)=false from decide_eq_false (by omega)]
   conv=>whnf
   refine sD ?_
   (try (refine hcut.go ?_;conv=>whnf))
   refine sF ?_
   refine hQ2 _ _ ?_;conv=>whnf
   exact ⟨⟨(X++[w],Y),zae g⟩,(hle_Q [(2,some 2),(5,some 5),(8,some 8),(9,some 9),(11,some 11)]),by simp⟩
end Ln
end Go.HL
