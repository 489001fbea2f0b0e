/- Walks, contracts and laws of the law's functions: part 6. No condition. -/
import Derived.Test.YticmofoeecjnhaaGreatMe
open Go.Proofs
set_option maxHeartbeats 32000000
set_option maxRecDepth 100000
set_option linter.unusedSimpArgs false
theorem yy77 {P:Prop} (h:P:=by
 refine sD ?_
 (exact zbn [(0,some 910),(1,some 911),(2,some 912),(3,some 913)])):P:=h
theorem yy104 {P:Prop} (h:P:=by
 try (refine hcut.go ?_;conv=>whnf)
 (exact zbn [(0,some 910),(1,some 911),(2,some 912),(3,some 913)])):P:=h
theorem yy82 {P:Prop} (h:P:=by
 refine ⟨by dsimp only;omega,by dsimp only;omega,by dsimp only;omega,u3,u5,fun s hs=>?_,by dsimp only;omega,?_,h9,fun t htt=>by have:=h10 t htt;dsimp only;omega,h11⟩
 . have:=h6 s (u4 s hs);dsimp only;omega
 . dsimp only
   rcases u6 with u6 | ⟨s,hs,u6⟩
   . omega
   . have:=h6 s hs;omega):P:=h
theorem yy22 {P:Prop} (h:P:=by
 try (refine hcut.go ?_;conv=>whnf)
 refine zaa (c:=(((a.filter fun p=>!mine c.stream c.mid c.ordered p).map Piece.row).length+1) * 136 <= 140737488355328) (by simp;omega) ?_;conv=>whnf
 try (refine hcut.go ?_;conv=>whnf)
 refine sF ?_
 exact ⟨⟨(a++[p],b),zag h⟩,(hle_X [(3,some 3),(900,some 900),(901,some 45)] (by repeat' (first | exact z0 | refine z1 ?_ | refine ⟨?_,?_⟩ | ((exact zau (f:=Piece.row) e2 rfl)) | ((exact zan (by rw [e1];simp))) | exact z2))),by simp⟩):P:=h
theorem yy14 {P:Prop} (h:P:=by
 conv=>whnf
 try refine sO ?_
 refine zbe k rfl h4 ?_;conv=>whnf
 (refine cL ?_;refine dL (zbv _) ?_)
 (refine cP ?_;refine dL ps ?_)
 refine sD ?_
 cases ok with
 | false =>
  have hstep:T=y:=hstep
  rw [hno rfl] at hstep
  subst hstep
  conv=>whnf
  try (refine hcut.go ?_;conv=>whnf)
  try rfl
 | true =>
  have hless:=hless rfl
  conv=>whnf
  try (refine hcut.go ?_;conv=>whnf)
  refine zaa (c:=(([]:List (List PV)).length+(y.turn.map fun n=>[pi n]).length) * 8 <= 140737488355328) (by rw [List.length_map,k1];simp;omega) ?_;conv=>whnf
  refine sO ?_
  refine zbe k rfl h4' ?_;conv=>whnf
  rw [hyk]
  refine sF ?_
  refine sO ?_
  refine zbe k rfl h4' ?_;conv=>whnf
  have hb:(bump y k).turn[k]?.getD 0=x.turn[k]+1:=by
   show (y.turn.set k (y.turn[k]?.getD 0+1))[k]?.getD 0=_
   rw [List.getElem?_set_self h4',List.getElem?_eq_getElem h4',hyk];rfl
  refine ⟨⟨(true,bump y k),⟨by show y.pieces.length < _;omega,by show tot y.pieces < _;omega,by show y.log.length+y.pieces.length < _;omega,by show k < (y.turn.set k _).length;rw [List.length_set];exact h4',by rw [hb];omega,by rw [hb];show _+(y.pieces.length:Int) < _;omega⟩,by rw [hstep];rfl,by show (y.turn.set k _).length < _;rw [List.length_set,k1];exact h9⟩,(hle_X [(2,some 2),(4,some 4),(900,some 26)] (by repeat' (first | exact z0 | refine z1 ?_ | refine ⟨?_,?_⟩ | ((refine zan ?_;show _=(y.turn.set k (y.turn[k]?.getD 0+1)).map _;rw [List.map_set,List.getElem?_eq_getElem h4',hyk];rfl)) | exact z2))),by show y.pieces.length < x.pieces.length;omega⟩):P:=h
theorem yy10 {P:Prop} (h:P:=by
 conv=>whnf
 by_cases c5:m <= n
 . rw [zrc g4 (by rw [gm];exact c5)] at he
   obtain ⟨k1,k2,k3,k4,k5,k6,k7⟩:=zju y k
   have hgt:(pass y k).turn[k]?.getD 0=m+1:=by rw [k1,List.getElem?_set_self g4,gm];rfl
   have nx:TFit (pass y k) k /\ (pass y k).turn[k]?.getD 0=m+1 /\ m+1 <= 2 ^ 58 /\ turns (upto (pass y k) k n) k=T /\ (pass y k).turn.length < 2 ^ 30:=⟨⟨by omega,by omega,by omega,by rw [k1,List.length_set];exact g4,by rw [hgt];omega,by rw [hgt];omega⟩,hgt,by omega,he,by rw [k1,List.length_set];exact g9⟩
   have hpas:=yau (r:=y) (k:=k) gm
   have hrt:=yav y k (tag m) true true
   refine sT ?_
   (refine cL ?_;refine dL (zbv m) ?_)
   rw [<- hk] at hpas hrt
   (refine cP ?_;refine dL (ztt y s.stream (tag m) (tag m) rfl (by omega) (by omega) (by omega)) ?_)
   generalize rdlv y s.stream (tag m) true true=D' at hpas hrt ⊢
   obtain ⟨w,okk⟩:=D'
   dsimp only at hpas hrt
   have hwl:k < w.turn.length:=by rw [hrt];exact g4
   refine sD ?_
   refine zaa (c:=(([]:List (List PV)).length+(w.turn.map fun n=>[pi n]).length) * 8 <= 140737488355328) (by rw [List.length_map,hrt];simp;omega) ?_;conv=>whnf
   repeat (refine hcut.go ?_;conv=>whnf)
   refine sF ?_
   refine sO ?_
   refine zbe k (by omega) hwl ?_;conv=>whnf
   refine sF ?_
   rw [hpas] at nx
   refine hQ _ _ ?_;conv=>whnf
   have nx:fwIn k n T (true,bump w k,m+1):=nx
   exact ⟨⟨(true,bump w k,m+1),nx⟩,(hle_X [(2,some 2),(4,some 4),(7,some 7),(900,some 103)] (by repeat' (first | exact z0 | refine z1 ?_ | refine ⟨?_,?_⟩ | ((refine zan ?_;show _=(w.turn.set k (w.turn[k]?.getD 0+1)).map _;rw [List.map_set,show (w.turn[k]?.getD 0)=m by rw [hrt,gm]];(try rw [hk]);(try rfl))) | exact z2))),by dsimp only;omega⟩
 . rw [zws (by rw [gm];omega)] at he
   subst he
   refine sN ?_
   refine hQ _ _ ?_;conv=>whnf
   (refine cP ?_;refine dL (zfk y k _ hk rfl ⟨g1,g2,g3,g4,by rw [gm];omega,by rw [gm];omega⟩ g9) ?_)
   refine sF ?_
   refine hQ0 _ _ ?_;conv=>whnf
   exact ⟨⟨(turns y k,a++[s],b),zag h1,next,h3⟩,(hle_Q [(2,some 2),(4,some 4)]),by simp⟩):P:=h
theorem yy116 {P:Prop} (h:P:=by
 repeat (refine hcut.go ?_;conv=>whnf)
 refine sF ?_
 refine hQ0 _ _ ?_;conv=>whnf
 exact ⟨⟨(x,a++[s],b),zag h1,next,h3⟩,(hle_Q [(2,some 2),(4,some 4)]),by simp⟩):P:=h
theorem yy17 {P:Prop} (h:P:=by
 rintro ⟨⟨A,B⟩,h⟩
 dsimp only at h
 have hl:r.spans.length=A.length+B.length:=by rw [h];simp
 conv=>whnf
 cases B with
 | cons p B =>
  have hp:=hsp p (by rw [h];simp)
  rw [List.length_cons] at hl
  have hq:((A.take 6).map (shift r.cum)).length=min 6 A.length:=by simp
  refine sT ?_
  refine zah h rfl ?_;conv=>whnf
  have hsn:=zna A p (shift r.cum)
  by_cases c:A.length < 6
  . rw [if_pos c] at hsn
    refine sT ?_
    refine sF ?_
    refine sF ?_
    refine zaa (c:=((((A.take 6).map (shift r.cum)).map Span.row).length+1) * 16 <= 140737488355328) (by simp;omega) ?_;conv=>whnf
    try (refine hcut.go ?_;conv=>whnf)
    refine sF ?_
    refine ⟨⟨(A++[p],B),by rw [h];simp⟩,(hle_X [(1,some 1),(2,some 2),(3,some 3),(900,some 42)] (by repeat' (first | exact z0 | refine z1 ?_ | refine ⟨?_,?_⟩ | ((exact zau (f:=Span.row) hsn rfl)) | exact z2))),by simp⟩
  . rw [if_neg c] at hsn
    refine sN ?_
    refine sF ?_
    refine ⟨⟨(A++[p],B),by rw [h];simp⟩,(hle_X [(1,some 1),(2,some 2),(3,some 3),(900,some 900)] (by repeat' (first | exact z0 | refine z1 ?_ | refine ⟨?_,?_⟩ | ((exact zan (by rw [hsn]))) | exact z2))),by simp⟩
 | nil =>
  rw [List.length_nil] at hl
  rw [List.append_nil] at h
  refine sN ?_
  rw [h]
  try rfl):P:=h
theorem yy40 {P:Prop} (h:P:=by
 refine sF ?_
 refine hQ _ _ ?_;conv=>whnf
 exact ⟨⟨(a++[p],b),zag h⟩,(hle_Q [(2,some 2),(3,some 3)]),by simp⟩):P:=h
theorem yy31 {P:Prop} (h:P:=by
 exact zak [(0,some 20)] rfl rfl trivial rfl rfl ⟨⟨rfl,.inl ⟨20,rfl,rfl⟩⟩,trivial⟩):P:=h
theorem yy113 {P:Prop} (h:P:=by
 conv=>whnf
 (exact zby [(1000,some 1000),(1001,some 1001),(0,some 1001)] (by repeat' (first | exact z0 | refine z1 ?_ | refine ⟨?_,?_⟩ | ((exact zan (by rw [k4]))) | exact z2)))):P:=h
theorem yy11 {P:Prop} (h:P:=by
 refine zaa (c:=(((A.map (wake ps Z)).map Path.row).length+1) * 56 <= 140737488355328) (by rw [List.length_map,List.length_map];omega) ?_;conv=>whnf
 refine sF ?_
 refine hQ _ _ ?_;conv=>whnf
 exact ⟨⟨(A++[x],B),zag h⟩,(hle_X [(1,some 1),(2,some 2),(96,some 96),(900,some 900),(901,some 901),(910,some 279)] (by repeat' (first | exact z0 | refine z1 ?_ | refine ⟨?_,?_⟩ | ((exact zau (f:=Path.row) (by rw [List.map_append];rfl) (by rw [hwk];rfl))) | exact z2))),by simp⟩):P:=h
theorem yy20 {P:Prop} (h:P:=by
 rw [if_neg e,List.nil_append] at i1
 refine zab (beq_eq_false_iff_ne.2 e) ?_;conv=>whnf
 (try (refine hcut.go ?_;conv=>whnf))
 have hr2:r=(room1 E.config.packet (z :: L)).toNat:=by rw [r1,Int.toNat_natCast]
 refine zaa (by rw [List.length_map];omega) ?_;conv=>whnf
 refine zdq (l:=z :: L) (by show (room1 E.config.packet (z :: L)).toNat+(((List.map Chunk.row (z :: L)).length:Int) - room1 E.config.packet (z :: L)).toNat=(z :: L).length;rw [List.length_map];omega) ?_
 conv=>whnf
 refine hQ2 _ _ ?_;conv=>whnf
 exact ⟨⟨(n,(z :: L).drop r,acc),i1,by dsimp only;rw [List.length_drop];omega,fun x hx=>i3 x (List.mem_of_mem_drop hx),by dsimp only;rw [List.length_drop];simp only [List.length_append,List.length_cons,List.length_nil] at i4 ⊢;omega⟩,(hle_X [(1,some 1),(2,some 2),(96,some 96),(920,some 920)] (by repeat' (first | exact z0 | refine z1 ?_ | refine ⟨?_,?_⟩ | ((exact congrArg (fun k=>HV.p (.sl 11 (((z :: L).drop k).map Chunk.row))) hr2)) | exact z2))),by dsimp only;rw [List.length_drop];omega⟩):P:=h
theorem yy41 {P:Prop} (h:P:=by
 obtain ⟨rf,g1,g2,-⟩:=Pck.ycs (z :: L) E.config.packet
 by_cases e:Pck.zdv E.config.packet 0 0 (z :: L)=0
 case pos =>
  refine zac (beq_iff_eq.2 e) ?_;conv=>whnf
  exact ⟨⟨⟩,(hle_X [(1,some 1),(2,some 2),(96,some 96),(920,some 920)] (by repeat' (first | exact z0 | refine z1 ?_ | refine ⟨?_,?_⟩ | ((exact zaw (by unfold room1;rw [if_pos (by omega)]))) | exact z2)))⟩
 case neg =>
  refine zab (beq_eq_false_iff_ne.2 e) ?_;conv=>whnf
  exact ⟨⟨⟩,(hle_X [(1,some 1),(2,some 2),(96,some 96),(920,some 920)] (by repeat' (first | exact z0 | refine z1 ?_ | refine ⟨?_,?_⟩ | ((exact zaw (by unfold room1;rw [if_neg (by omega)]))) | exact z2)))⟩):P:=h
theorem yy65 {P:Prop} (h:P:=by
 exact ⟨⟨((A++[x],B),u),zag k1,hnext,k3,k4⟩,(hle_Q [(1,some 1),(2,some 2)]),by simp⟩):P:=h
theorem yy66 {P:Prop} (h:P:=by
 exact ⟨⟨⟩,(hle_Z [158] [(1,some 1),(2,some 2),(96,some 96),(900,none),(901,some 148)] (by repeat' (first | exact z0 | refine z1 ?_ | refine ⟨?_,?_⟩ | ((exact congrArg (fun r=>HSlot.live (.cells 148 (pdC (fwdS E 1 w) (Sch.qs E.queue) (ints E.sched.had) (Sco.sents E.out) (.p (.sl 7 r)) (ints E.mids) (ints E.fates) hnil (.own 148)))) hr)) | exact z2)))⟩):P:=h
theorem yy67 {P:Prop} (h:P:=by
 exact ⟨⟨⟩,(hle_Z [158] [(1,some 1),(2,some 2),(96,some 96),(900,some 148),(901,none)] (by repeat' (first | exact z0 | refine z1 ?_ | refine ⟨?_,?_⟩ | ((exact congrArg (fun r=>HSlot.live (.cells 148 (pdC (fwdS E 0 w) (Sch.qs E.queue) (ints E.sched.had) (Sco.sents E.out) (.p (.sl 7 r)) (ints E.mids) (ints E.fates) (.own 148) hnil))) hr)) | exact z2)))⟩):P:=h
theorem yy73 {P:Prop} (h:P:=by
 (try (refine hcut.go ?_;conv=>whnf))
 refine sF ?_
 refine hQ _ _ ?_;conv=>whnf
 exact ⟨⟨(i+1,⟨ps,[a,c]⟩),by dsimp only;omega,hst,k3,rfl,k5,k6,by show a.length <= _;dsimp only;omega,by show c.length <= _;dsimp only;omega,k9⟩,(hle_Q [(1,some 1),(2,some 2),(96,some 96),(900,some 900),(901,some 901)]),by dsimp only;omega⟩):P:=h
theorem yy123 {P:Prop} (h:P:=by
 (exact zby [(1000,some 1000)] (by repeat' (first | exact z0 | refine z1 ?_ | refine ⟨?_,?_⟩ | ((simp [old,c1];rfl)) | ((simp [old,c1])) | exact z2)))):P:=h
theorem yy136 {P:Prop} (h:P:=by
 exact ⟨⟨((A++[x],B),giveS u x.id),zag k1,hnext,kn.1,kn.2.trans k4⟩,(hle_Q [(1,some 1),(2,some 2)]),by simp⟩):P:=h
theorem yy55 {P:Prop} (h:P:=by
 refine sD ?_
 exact zak [(0,some 950)] rfl rfl trivial rfl rfl ⟨⟨rfl,.inl ⟨950,rfl,rfl⟩⟩,trivial⟩):P:=h
theorem yy103 {P:Prop} (h:P:=by
 obtain ⟨hk,e⟩:=List.getElem?_eq_some_iff.1 hp
 rw [<- e,List.getElem_cons_drop,List.take_append_drop]):P:=h
theorem yy39 {P:Prop} (h:P:=by
 obtain ⟨PS,PK⟩:=PP
 dsimp only at hT pp pu
 subst hT
 (try (refine hcut.go ?_;conv=>whnf))
 (refine cP ?_;refine dL pp ?_)
 (refine cP ?_;refine dL pu ?_)
 refine sD ?_
 try rfl):P:=h
theorem yy75 {P:Prop} (h:P:=by
 rw [hp] at hT
 dsimp only at hT
 subst hT
 have hge:=List.getElem?_eq_none_iff.1 hp
 refine zac (decide_eq_true (by rw [List.length_map];omega)) ?_;conv=>whnf
 try rfl):P:=h
theorem yy118 {P:Prop} (h:P:=by
 rw [if_pos n0] at hT
 subst hT
 refine zac (decide_eq_true n0) ?_;conv=>whnf
 try rfl):P:=h
theorem yy130 {P:Prop} (h:P:=by
 rw [her,List.map_append,List.nil_append,List.drop_zero,show (x.n - 0).toNat=x.n.toNat by omega,show (x.n+1).toNat=x.n.toNat+1 by omega]):P:=h
theorem yy61 {P:Prop} (h:P:=by
 generalize doS y (stp 2)=D at hli hsl2 hnx pd
 obtain ⟨z,a⟩:=D
 dsimp only at hli hsl2 hnx pd
 refine sT ?_
 (refine cP ?_;refine dL pd ?_)
 refine sF ?_
 refine hQ _ _ ?_;conv=>whnf
 exact ⟨⟨((k+1,d),z),by show l.way.length=k+1+d;omega,hnx,by rw [show N+(k+1)=N+k+1 by omega,show M+120 * (k+1)=M+120 * k+120 by omega];exact hli,hsl2⟩,(hle_Q [(1,some 1),(2,some 2)]),by simp⟩):P:=h
theorem yy98 {P:Prop} (h:P:=by
 have hT:(doS y (stp 5)).1=T:=by rw [<- hT];unfold round;rw [k2]
 generalize doS y (stp 5)=D at hT pd
 obtain ⟨z,a⟩:=D
 dsimp only at hT pd
 subst hT
 refine sN ?_
 refine hQ _ _ ?_;conv=>whnf
 (refine cP ?_;refine dL pd ?_)
 try rfl):P:=h
theorem yy38 {P:Prop} (h:P:=by
 have hk4:k < 400:=by omega
 obtain ⟨n,hn⟩:∃ n,400 - k=n+1:=⟨400 - k - 1,by omega⟩
 rw [hn,zib hbz] at k2
 dsimp only at k2
 have hli:=zmb k3 (by omega) (by omega)
 have hsl2:=zot k3 k4 (by omega) (by omega)
 have pr:=zne y k3 k4 (by omega) (by omega)
 generalize round y=z at k2 hli hsl2 pr
 (try (refine hcut.go ?_;conv=>whnf))
 (refine cP ?_;refine dL pr ?_)
 refine sF ?_
 refine hQ _ _ ?_;conv=>whnf
 exact ⟨⟨(k+1,z),by omega,by dsimp only;rw [show 400 - (k+1)=n by omega];exact ⟨k2.1,by omega⟩,by dsimp only;rw [show N+41 * (k+1)=N+41 * k+41 by omega,show M+4920 * (k+1)=M+4920 * k+4920 by omega];exact hli,hsl2⟩,(hle_Q [(1,some 1),(2,some 2),(4,some 4)]),by show 400 - (k+1) < 400 - k;omega⟩):P:=h
theorem yy54 {P:Prop} (h:P:=by
 refine hQ _ _ ?_;conv=>whnf
 obtain ⟨T1,T2⟩:=T
 obtain ⟨e1,e2⟩:=k2
 dsimp only at e1 e2
 subst e1
 rw [show ((T2:Nat):Int)=k from by omega]
 try rfl):P:=h
namespace Go.HL
namespace Rcv
open Srt Jn Ser
theorem zrb (r:Receiver) (k:Nat) (z:Int) (hz:z=k) (hf:TFit r k) :
 FunOK Tryz.prog 182 [.ptr 1000 0,i64 z] (lk .free (tkH r)) (.tup []) (lk .free (tkD (turns r k))):=by
 subst hz;exact yoe r k hf
structure Takes (r:Receiver) (c:Chunk) (n:Int):Prop where
 kind:c.kind=1
 low:0 <= c.stream
 high:c.stream < r.turn.length
 above:r.cum < n
 fresh:has r.spans n=false
 room:n=r.cum+1 \/ (tot r.pieces:Int)+c.data.length <= 400
def put (r:Receiver) (c:Chunk):Receiver :=
 { r with pieces:=r.pieces++[⟨near r.cum c.tag,c⟩],cum:=(up (add r.spans (near r.cum c.tag)) r.cum).1,spans:=(up (add r.spans (near r.cum c.tag)) r.cum).2 }
instance yvp (r:Receiver) (c:Chunk) (n:Int):Decidable (Takes r c n) :=
 decidable_of_iff (c.kind=1 /\ 0 <= c.stream /\ c.stream < r.turn.length /\ r.cum < n /\ has r.spans n=false /\ (n=r.cum+1 \/ (tot r.pieces:Int)+c.data.length <= 400)) ⟨fun ⟨a,b,d,e,f,g⟩=>⟨a,b,d,e,f,g⟩,fun ⟨a,b,d,e,f,g⟩=>⟨a,b,d,e,f,g⟩⟩
def data (r:Receiver) (c:Chunk):Receiver:=if Takes r c (near r.cum c.tag) then (if c.ordered then turns (put r c) c.stream.toNat else (dlv (put r c) c.stream c.mid false).1) else r
structure DFit (r:Receiver) (c:Chunk):Prop where
 fit:Fit r
 rise:rise r.spans
 hi:∀ s ∈ r.spans,s.hi <= 2 ^ 39
 cum1:-(2 ^ 39) <= r.cum
 cum2:r.cum <= 2 ^ 39
 turn:∀ t ∈ r.turn,-(2 ^ 59) < t /\ t < 2 ^ 59
 data:c.data.length < 2 ^ 21
 more:tot r.pieces < 2 ^ 21
 many:r.pieces.length < 2 ^ 21
theorem yof {l:List Span} {n M:Int} (h:Ser.rise l) (h1:-9223372036854775808 <= n) (h2:n <= 9223372036854775807) (hl:∀ s ∈ l,s.hi <= M) (hn:n <= M):∀ s ∈ add l n,s.hi <= M:=by
 obtain ⟨r1,r2⟩:=zwo h h1 h2
 intro s hs
 have h3:=(zfa r1 s hs).1
 have h4:has (add l n) s.hi=true:=ydj.2 ⟨s,hs,h3,Int.le_refl _⟩
 rw [r2,Bool.or_eq_true] at h4
 rcases h4 with h4 | h4
 . obtain ⟨t,ht,_,h5⟩:=ydj.1 h4
   have:=hl t ht;omega
 . have:s.hi=n:=by simpa using h4
   omega
theorem zwr (l:List Span) (n:Int):(add l n).length <= l.length+1:=by
 unfold add
 split
 . omega
 . have h1:(cutL n (below l n)).1.length <= (below l n).length:=by
    unfold cutL;split
    . split
      . simp
      . exact Nat.le_refl _
    . exact Nat.le_refl _
   have h2:(cutR n (above l n)).2.length <= (above l n).length:=by
    cases above l n with
    | nil=>exact Nat.le_refl _
    | cons t r=>simp only [cutR];split <;> simp
   have h3:l.length=(below l n).length+(above l n).length:=by
    conv=>lhs;rw [split l n]
    exact List.length_append
   simp only [List.length_append,List.length_cons];omega
theorem yog (r:Receiver) (c:Chunk) (hf:DFit r c):FunOK Tryz.prog 152 [r.hv,c.hv] zad (rcvO (data r c) 0 1 2 3) (lk .free (rcvB (data r c) 0 1 2 3 [])):=by
 obtain ⟨h1,h2,h3,h4,h5,h6,h7,h8,h9⟩:=hf
 obtain ⟨n1,n2,n3⟩:=zfy (a:=r.cum) (t:=c.tag) (by omega) (by omega)
 generalize hD:data r c=D
 refine zal mixed Tryz.func152 (by decide) [] (fun _=>.inl rfl) ?_
 conv=>whnf
 (refine zao [(0,910),(1,911),(2,912),(3,913)]  ?_;(conv=>whnf);refine dO (zci r h1) ?_)
 (refine cL ?_;refine dL (zhc r.cum c.tag) ?_)
 have no:¬ Takes r c (near r.cum c.tag) -> D=r:=fun h=>by rw [<- hD,data,if_neg h]
 by_cases c1:c.kind=1
 case neg =>
  obtain rfl:=no fun h=>c1 h.1
  refine zac (by simpa using c1) ?_;conv=>whnf
  exact yy77
 refine zab (by simp [c1]) ?_;conv=>whnf
 by_cases c2:c.stream < 0
 . obtain rfl:=no fun h=>by have:=h.2;omega
   refine zac (by simpa using c2) ?_;conv=>whnf
   exact yy77
 refine zab (by simpa using c2) ?_;conv=>whnf
 by_cases c3:c.stream >= r.turn.length
 . obtain rfl:=no fun h=>by have:=h.3;omega
   refine zac (by simpa using c3) ?_;conv=>whnf
   exact yy77
 refine zab (by simpa using c3) ?_;conv=>whnf
 by_cases c4:near r.cum c.tag <= r.cum
 . obtain rfl:=no fun h=>by have:=h.4;omega
   refine zac (by simpa using c4) ?_;conv=>whnf
   exact yy77
 refine zab (by simpa using c4) ?_;conv=>whnf
 (refine cL ?_;refine dL (yfq r.spans (near r.cum c.tag) (by have:=h1.spans;omega)) ?_)
 cases c5:has r.spans (near r.cum c.tag) with
 | true =>
  obtain rfl:=no fun h=>by have:=h.5;rw [c5] at this;cases this
  conv=>whnf
  exact yy77
 | false =>
 conv=>whnf
 refine sF ?_
 have g1:=h1.spans
 have g2:=h1.log
 have rest:Takes r c (near r.cum c.tag) -> D=if c.ordered then turns (put r c) c.stream.toNat else (dlv (put r c) c.stream c.mid false).1:=fun h=>by rw [<- hD,data,if_pos h]
 have hput:tot (put r c).pieces=tot r.pieces+c.data.length:=by show tot (r.pieces++[_])=_;rw [zja,zdp];rfl
 have hpl:(put r c).pieces.length=r.pieces.length+1:=by show (r.pieces++[_]).length=_;simp
 have hadd:=yof (n:=near r.cum c.tag) (M:=1099511627776) h2 (by omega) (by omega) (fun s hs=>by have:=h3 s hs;omega) (by omega)
 have hal:=zwr r.spans (near r.cum c.tag)
 by_cases c6:near r.cum c.tag=r.cum+1
 case' pos =>
  have ok:Takes r c (near r.cum c.tag):=⟨c1,by omega,by omega,by omega,c5,.inl c6⟩
  refine zab (by simpa using c6) ?_;conv=>whnf
  ((refine zap ?_ ?_;(· kernel_rfl);conv=>whnf);try (refine hcut.go ?_;conv=>whnf))
 case' neg =>
  refine zac (by simpa using c6) ?_;conv=>whnf
  (refine cL ?_;refine dL (yan r (by omega) (by omega)) ?_)
  refine sF ?_
  by_cases c7:(tot r.pieces:Int)+c.data.length > 400
  case pos =>
   obtain rfl:=no fun h=>by have:=h.6;omega
   refine sD ?_
   refine zac (by simpa using c7) ?_;conv=>whnf
   exact yy104
  have ok:Takes r c (near r.cum c.tag):=⟨c1,by omega,by omega,by omega,c5,.inr (by omega)⟩
  refine sD ?_
  refine zab (by simpa using c7) ?_;conv=>whnf
  try (refine hcut.go ?_;conv=>whnf)
 all_goals (
  have rest:=rest ok
  (refine zao [(0,66)]  ?_;(conv=>whnf);refine dO (Cl.zcf c.data (by omega)) ?_)
  refine zaa (c:=((r.pieces.map Piece.row).length+1) * 136 <= 140737488355328) (by simp;omega) ?_;conv=>whnf
  refine sD ?_
  (refine zao [(0,88)]  ?_;(conv=>whnf);refine dO (yri r.spans (near r.cum c.tag) h2 (by omega) (by omega) (by omega)) ?_)
  (refine zao [(0,92)]  ?_;(conv=>whnf);refine dO (yob (add r.spans (near r.cum c.tag)) r.cum hadd (by omega) (by omega) (by omega)) ?_)
  refine sD ?_
  obtain ⟨k,hk⟩:∃ k:Nat,c.stream=k:=⟨c.stream.toNat,by omega⟩
  have hkl:k < r.turn.length:=by omega
  have htk:(put r c).turn[k]?.getD 0=r.turn[k]:=by show r.turn[k]?.getD 0=_;rw [List.getElem?_eq_getElem hkl];rfl
  have htb:=h6 _ (List.getElem_mem hkl)
  refine zaf (fun ho=>?_) (fun ho=>?_)
  . rw [if_pos ho,show c.stream.toNat=k by omega] at rest
    subst rest
    conv=>whnf
    (refine zae [] [(1000,10),(1001,92),(1002,78),(1003,912),(1004,913)] [(0,920),(1,921),(2,922),(3,923)] ?_;(conv=>whnf);refine dG (zrb (put r c) k _ hk ⟨by omega,by omega,by show r.log.length+_ < _;omega,hkl,by rw [htk];omega,by rw [htk];omega⟩) ?_ ⟨rfl,rfl,rfl,⟨⟨rfl,_,rfl,.inl ⟨rfl,rfl⟩⟩,⟨⟨rfl,_,rfl,.inl ⟨rfl,rfl⟩⟩,⟨⟨rfl,_,rfl,.inl ⟨rfl,zau (f:=Piece.row) (x:=⟨near r.cum c.tag,c⟩) rfl rfl⟩⟩,⟨⟨rfl,_,rfl,.inl ⟨rfl,rfl⟩⟩,⟨⟨rfl,_,rfl,.inl ⟨rfl,rfl⟩⟩,trivial⟩⟩⟩⟩⟩,⟨⟨rfl,rfl⟩,⟨⟨rfl,rfl⟩,⟨⟨rfl,rfl⟩,⟨⟨rfl,rfl⟩,trivial⟩⟩⟩⟩,rfl,rfl,rfl⟩)
    (exact zbn [(0,some 920),(1,some 921),(2,some 922),(3,some 923)])
  . rw [if_neg (by rw [ho];decide)] at rest
    subst rest
    conv=>whnf
    (refine zae [] [(1000,10),(1001,92),(1002,78),(1003,912),(1004,913)] [(0,920),(1,921),(2,922),(3,923)] ?_;(conv=>whnf);refine dG (zjb (put r c) c.stream c.mid false (by omega) (by omega) (by show r.log.length < _;omega)) ?_ ⟨rfl,rfl,rfl,⟨⟨rfl,_,rfl,.inl ⟨rfl,rfl⟩⟩,⟨⟨rfl,_,rfl,.inl ⟨rfl,rfl⟩⟩,⟨⟨rfl,_,rfl,.inl ⟨rfl,zau (f:=Piece.row) (x:=⟨near r.cum c.tag,c⟩) rfl rfl⟩⟩,⟨⟨rfl,_,rfl,.inl ⟨rfl,rfl⟩⟩,⟨⟨rfl,_,rfl,.inl ⟨rfl,rfl⟩⟩,trivial⟩⟩⟩⟩⟩,⟨⟨rfl,rfl⟩,⟨⟨rfl,rfl⟩,⟨⟨rfl,rfl⟩,⟨⟨rfl,rfl⟩,trivial⟩⟩⟩⟩,rfl,rfl,rfl⟩)
    (exact zbn [(0,some 920),(1,some 921),(2,some 922),(3,some 923)]))
def shift (c:Int) (s:Span):Span:=⟨s.lo - c,s.hi - c⟩
def tells (r:Receiver):Chunk:=⟨2,tag r.cum,0,0,0,false,false,[],(r.spans.take 6).map (shift r.cum),(if 0 > 400 - (tot r.pieces:Int) then 0 else 400 - (tot r.pieces:Int)),[]⟩
theorem zna {α:Type} (A:List α) (x:α) (f:α -> α):((A++[x]).take 6).map f=if A.length < 6 then (A.take 6).map f++[f x] else (A.take 6).map f:=by
 split
 . rename_i h
   rw [List.take_of_length_le (by simp;omega),List.take_of_length_le (by omega)];simp
 . rename_i h
   rw [List.take_append_of_le_length (by omega)]
abbrev tellC (r:Receiver) (v:HV):List HV:=[i64 2,i64 (tells r).tag,i64 0,i64 0,i64 0,hbool false,hbool false,hnil,v,i64 (tells r).room,hnil]
theorem yoh (r:Receiver) (h1:r.spans.length < 2 ^ 40) (h2:r.pieces.length < 2 ^ 40) (h3:tot r.pieces < 2 ^ 60) (hc:-(2 ^ 60) <= r.cum) (hc2:r.cum <= 2 ^ 60) (hsp:∀ s ∈ r.spans,-(2 ^ 61) <= s.lo /\ s.lo <= 2 ^ 61 /\ -(2 ^ 61) <= s.hi /\ s.hi <= 2 ^ 61) :
 FunOK Tryz.prog 154 [r.hv] zad (.agg (tellC r (.own 0))) (lk .free [(0,rowS (tells r).spans)]):=by
 refine zal mixed Tryz.func154 (by decide) [] (fun _=>.inl rfl) ?_
 conv=>whnf
 (refine cL ?_;refine dL (zcg r.cum) ?_)
 (refine cL ?_;refine dL (yan r (by omega) (by omega)) ?_)
 refine sF ?_
 refine sD ?_
 refine ⟨{ x:List Span × List Span // r.spans=x.1++x.2 },fun | ⟨(A,B),_⟩=>hs 43 [(1,.ptr 1 0),(2,.ptr 2 0),(3,.ptr 3 0),(15,spans r.spans),(16,i64 r.spans.length),(17,i64 A.length)] [(1,.live (.cells 37 (rcvC r (spans r.spans) (pieces r.pieces) (.p (.sl 1 (r.turn.map fun n=>[pi n]))) (.p (.sl 4 (r.log.map Arrival.row)))))),(2,.live (.cells 61 [i64 0,i64 0,i64 0,i64 0,i64 0,hbool false,hbool false,hnil,hnil,i64 0,hnil])),(3,.live (.cells 61 (tellC r (.own 900)))),(900,rowS ((A.take 6).map (shift r.cum)))],fun x=>x.1.2.length,⟨([],r.spans),rfl⟩,?_,?_⟩
 . exact (hle_Q [(1,some 1),(2,some 2),(3,some 3),(900,none)])
 rintro ⟨⟨A,B⟩,h⟩
 dsimp only at h
 have hl:r.spans.length=A.length+B.length:=by rw [h];simp
 conv=>whnf
 cases B with
 | cons p B =>
  have hp:=hsp p (by rw [h];simp)
  rw [List.length_cons] at hl
  have hq:((A.take 6).map (shift r.cum)).length=min 6 A.length:=by simp
  refine sT ?_
  refine zah h rfl ?_;conv=>whnf
  have hsn:=zna A p (shift r.cum)
  by_cases c:A.length < 6
  . rw [if_pos c] at hsn
    refine sT ?_
    refine sF ?_
    refine sF ?_
    refine zaa (c:=((((A.take 6).map (shift r.cum)).map Span.row).length+1) * 16 <= 140737488355328) (by simp;omega) ?_;conv=>whnf
    try (refine hcut.go ?_;conv=>whnf)
    refine sF ?_
    refine ⟨⟨(A++[p],B),by rw [h];simp⟩,(hle_X [(1,some 1),(2,some 2),(3,some 3),(900,some 39)] (by repeat' (first | exact z0 | refine z1 ?_ | refine ⟨?_,?_⟩ | ((exact zau (f:=Span.row) hsn rfl)) | exact z2))),by simp⟩
  . rw [if_neg c] at hsn
    refine sN ?_
    refine sF ?_
    refine ⟨⟨(A++[p],B),by rw [h];simp⟩,(hle_X [(1,some 1),(2,some 2),(3,some 3),(900,some 900)] (by repeat' (first | exact z0 | refine z1 ?_ | refine ⟨?_,?_⟩ | ((exact zan (by rw [hsn]))) | exact z2))),by simp⟩
 | nil =>
  rw [List.length_nil] at hl
  rw [List.append_nil] at h
  refine sN ?_
  (exact zby [(0,some 900)] (by repeat' (first | exact z0 | refine z1 ?_ | refine ⟨?_,?_⟩ | ((exact zan (by rw [<- h];rfl))) | exact z2)))
end Rcv
namespace Rcv
open Srt Jn Ser
def pass (r:Receiver) (k:Nat):Receiver:=bump (if (dlv r k (tag (r.turn[k]?.getD 0)) true).2 then (dlv r k (tag (r.turn[k]?.getD 0)) true).1 else dropR (dlv r k (tag (r.turn[k]?.getD 0)) true).1 k (tag (r.turn[k]?.getD 0)) true) k
def passes:Nat -> Receiver -> Nat -> Receiver
 | 0,r,_=>r
 | n+1,r,k=>passes n (pass r k) k
def upto (r:Receiver) (k:Nat) (n:Int):Receiver:=passes (n+1 - r.turn[k]?.getD 0).toNat r k
def skip1 (r:Receiver) (s:Skip):Receiver :=
 if s.stream < 0 \/ (r.turn.length:Int) <= s.stream then r else if s.ordered=false then dropR r s.stream s.mid false
 else turns (upto r s.stream.toNat (near (r.turn[s.stream.toNat]?.getD 0) s.mid)) s.stream.toNat
structure SFit (r:Receiver):Prop where
 pieces:r.pieces.length < 2 ^ 22
 bytes:tot r.pieces < 2 ^ 22
 log:r.log.length+r.pieces.length < 2 ^ 37
 lo:∀ t ∈ r.turn,-(2 ^ 57) < t
 hi:∀ t ∈ r.turn,t < 2 ^ 57
theorem zju (r:Receiver) (k:Nat):(pass r k).turn=r.turn.set k (r.turn[k]?.getD 0+1) /\ (pass r k).cum=r.cum /\ (pass r k).spans=r.spans /\ (pass r k).config=r.config /\ (pass r k).pieces.length <= r.pieces.length /\ tot (pass r k).pieces <= tot r.pieces /\
 (pass r k).log.length+(pass r k).pieces.length <= r.log.length+r.pieces.length:=by
 obtain ⟨h1,h2,h3,h4,h5,h6,h7⟩:=zgb r k (tag (r.turn[k]?.getD 0)) true
 unfold pass
 generalize dlv r k (tag (r.turn[k]?.getD 0)) true=D at *
 obtain ⟨y,ok⟩:=D
 dsimp only at h1 h2 h3 h4 h5 h6 h7 ⊢
 cases ok with
 | true=>exact ⟨by show y.turn.set _ (y.turn[k]?.getD 0+1)=_;rw [h1],h2,h3,h4,h5,h6,h7⟩
 | false =>
  have f1:=List.length_filter_le (fun p=>!mine k (tag (r.turn[k]?.getD 0)) true p) y.pieces
  have f2:=zhj (fun p=>!mine k (tag (r.turn[k]?.getD 0)) true p) y.pieces
  refine ⟨by show y.turn.set _ (y.turn[k]?.getD 0+1)=_;rw [h1],h2,h3,h4,?_,?_,?_⟩
  . show (List.filter _ _).length <= _;omega
  . show tot (List.filter _ _) <= _;omega
  . show _+(List.filter _ _).length <= _;show y.log.length+_ <= _;omega
theorem zrc {r:Receiver} {k:Nat} {n:Int} (h:k < r.turn.length) (hn:r.turn[k]?.getD 0 <= n):upto r k n=upto (pass r k) k n:=by
 obtain ⟨h1,_⟩:=zju r k
 unfold upto
 rw [h1,List.getElem?_set_self h]
 show passes _ _ _=passes (n+1 - (r.turn[k]?.getD 0+1)).toNat _ _
 obtain ⟨j,hj⟩:∃ j,(n+1 - r.turn[k]?.getD 0).toNat=j+1:=⟨(n+1 - r.turn[k]?.getD 0).toNat - 1,by omega⟩
 rw [hj,passes,show (n+1 - (r.turn[k]?.getD 0+1)).toNat=j by omega]
theorem zws {r:Receiver} {k:Nat} {n:Int} (hn:n < r.turn[k]?.getD 0):upto r k n=r:=by
 unfold upto
 rw [show (n+1 - r.turn[k]?.getD 0).toNat=0 by omega];rfl
theorem zqc (r:Receiver) (s:Skip) (hf:SFit r) :
 FunOK Tryz.prog 184 [.ptr 1000 0,s.hv] (lk .free (tkH r)) (.tup []) (lk .free (tkD (skip1 r s))):=by
 obtain ⟨f1,f2,f3,f4,f5⟩:=hf
 generalize hT:skip1 r s=T
 refine zal mixed Tryz.func184 (by decide) [1000,1001,1002,1003,1004] zba ?_
 conv=>whnf
 by_cases c1:s.stream < 0
 . rw [skip1,if_pos (.inl c1)] at hT
   subst hT
   refine zac (by simpa using c1) ?_;conv=>whnf
   refine sD ?_
   exact yy125
 refine zab (by simpa using c1) ?_;conv=>whnf
 refine sD ?_
 by_cases c2:(r.turn.length:Int) <= s.stream
 . rw [skip1,if_pos (.inr c2)] at hT
   subst hT
   refine zac (by simpa using c2) ?_;conv=>whnf
   exact yy125
 refine zab (by simpa using c2) ?_;conv=>whnf
 cases hs3:s.ordered with
 | false =>
  rw [skip1,if_neg (by omega),if_pos hs3] at hT
  subst hT
  conv=>whnf
  try (refine hcut.go ?_;conv=>whnf)
  (refine zae [] [(1000,1000),(1001,1001),(1002,1002),(1003,1003),(1004,1004)] [(0,910),(1,911),(2,912),(3,913)] ?_;(conv=>whnf);refine dG (zqz r s.stream s.mid false (by omega)) ?_)
  exact yy101
 | true =>
 rw [skip1,if_neg (by omega),if_neg (by rw [hs3];decide)] at hT
 obtain ⟨k,hk⟩:∃ k:Nat,s.stream=k:=⟨s.stream.toNat,by omega⟩
 have hkl:k < r.turn.length:=by omega
 have hg:r.turn[k]?.getD 0=r.turn[k]:=by simp [hkl]
 have b1:=f4 _ (List.getElem_mem hkl)
 have b2:=f5 _ (List.getElem_mem hkl)
 rw [show s.stream.toNat=k by omega,hg] at hT
 conv=>whnf
 try (refine hcut.go ?_;conv=>whnf)
 refine sO ?_
 refine zbe k (by omega) hkl ?_;conv=>whnf
 (refine cL ?_;refine dL (zhc r.turn[k] s.mid) ?_)
 refine sD ?_
 obtain ⟨n1,n2,n3⟩:=zfy (a:=r.turn[k]) (t:=s.mid) (by omega) (by omega)
 generalize near r.turn[k] s.mid=n at hT n1 n2 n3 ⊢
 refine ⟨{ x:Receiver // TFit x k /\ x.turn[k]?.getD 0 <= 2 ^ 58 /\ turns (upto x k n) k=T },fun | ⟨x,_⟩=>hsP [1000,1001,1002,1003,1004] 88 [(0,.ptr 1000 0),(3,.ptr 3 0),(4,i64 n)] ((1000,.live (.cells 225 (rcvC x (.own 900) (.own 901) (.own 902) (.own 903)))) :: rcvB x 900 901 902 903 [(3,.live (.cells 180 [i64 s.stream,i64 s.mid,hbool true])),(1001,.dead),(1002,.dead),(1003,.dead),(1004,.dead)]),fun x=>(n+1 - x.1.turn[k]?.getD 0).toNat,⟨r,⟨f1,f2,f3,hkl,by rw [hg];omega,by rw [hg];omega⟩,by rw [hg];omega,hT⟩,?_,?_⟩
 . exact (hle_P (pK5 ((900,some 1001) :: (901,some 1002) :: (902,some 1003) :: (903,some 1004) :: [(3,some 3)])))
 rintro ⟨x,⟨h1,h2,h3,h4,h5,h6⟩,h7,he⟩
 conv=>whnf
 refine sO ?_
 refine zbe k (by omega) h4 ?_;conv=>whnf
 refine sD ?_
 have hx:x.turn[k]?.getD 0=x.turn[k]:=by simp [h4]
 rw [hx] at h5 h6 h7
 by_cases c3:x.turn[k] <= n
 . rw [zrc h4 (by omega)] at he
   obtain ⟨k1,k2,k3,k4,k5,k6,k7⟩:=zju x k
   rw [hx] at k1
   have hpas:pass x k=bump (if (dlv x k (tag x.turn[k]) true).2 then (dlv x k (tag x.turn[k]) true).1 else dropR (dlv x k (tag x.turn[k]) true).1 k (tag x.turn[k]) true) k:=by rw [pass,hx]
   obtain ⟨d1,d2,d3,d4,d5,d6,d7⟩:=zgb x k (tag x.turn[k]) true
   have hgt:(pass x k).turn[k]?.getD 0=x.turn[k]+1:=by rw [k1,List.getElem?_set_self h4];rfl
   have next:TFit (pass x k) k /\ (pass x k).turn[k]?.getD 0 <= 2 ^ 58 /\ turns (upto (pass x k) k n) k=T:=⟨⟨by omega,by omega,by omega,by rw [k1,List.length_set];exact h4,by rw [hgt];omega,by rw [hgt];omega⟩,by rw [hgt];omega,he⟩
   have less:(n+1 - (pass x k).turn[k]?.getD 0).toNat < (n+1 - x.turn[k]?.getD 0).toNat:=by rw [hgt,hx];omega
   refine sT ?_
   refine sO ?_
   refine zbe k (by omega) h4 ?_;conv=>whnf
   (refine cL ?_;refine dL (zcg _) ?_)
   refine sD ?_
   (refine zae [] [(1000,1000),(1001,900),(1002,901),(1003,902),(1004,903)] [(0,910),(1,911),(2,912),(3,913)] ?_;(conv=>whnf);refine dG (zjb x s.stream (tag x.turn[k]) true (by omega) (by omega) (by omega)) ?_)
   rw [<- hk] at hpas d1 d2 d3 d4 d5 d6 d7
   have hbm:∀ (y:Receiver) (z:Int),y.turn=x.turn -> z=x.turn[k]+1 -> HSlot.live (.row 3 1 ((bump y k).turn.map fun n=>[pi n]))=HSlot.live (.row 3 1 ((y.turn.map fun n=>[pi n]).set s.stream.toNat [pi z])):=fun y z hy hz=>by
    refine zan ?_
    show (y.turn.set k (y.turn[k]?.getD 0+1)).map _=_
    rw [hy,hx,List.map_set,hz,show s.stream.toNat=k by omega]
   generalize dlv x s.stream (tag x.turn[k]) true=D at *
   obtain ⟨y,ok⟩:=D
   dsimp only at d1 d2 d3 d4 d5 d6 d7 hpas
   have h4y:k < y.turn.length:=by rw [d1];exact h4
   have hyk:y.turn[k]=x.turn[k]:=by simp only [d1]
   cases ok with
   | true =>
    have hpas:pass x k=bump y k:=hpas
    conv=>whnf
    try (refine hcut.go ?_;conv=>whnf)
    refine sO ?_
    refine zbe k (by omega) h4y ?_;conv=>whnf
    rw [hyk]
    refine sF ?_
    refine sO ?_
    refine zbe k (by omega) h4y ?_;conv=>whnf
    refine sD ?_
    rw [hpas] at next less
    refine ⟨⟨_,next⟩,(hle_Y (pK5 ((3,some 3) :: [(900,some 910),(901,some 911),(902,some 912),(903,some 913)])) (by repeat' (first | exact z0 | refine z1 ?_ | refine ⟨?_,?_⟩ | ((exact hbm y (x.turn[k]+1) d1 rfl)) | ((exact (hbm y (x.turn[k]+1) d1 rfl).symm)) | exact z2))),less⟩
   | false =>
    have hpas:pass x k=bump (dropR y s.stream (tag x.turn[k]) true) k:=by rw [hpas,hk];rfl
    conv=>whnf
    try (refine hcut.go ?_;conv=>whnf)
    (refine zae [] [(1000,1000),(1001,910),(1002,911),(1003,912),(1004,913)] [(0,920),(1,921),(2,922),(3,923)] ?_;(conv=>whnf);refine dG (zqz y s.stream (tag x.turn[k]) true (by omega)) ?_)
    have e1:(dropR y s.stream (tag x.turn[k]) true).turn=x.turn:=d1
    generalize dropR y s.stream (tag x.turn[k]) true=w at hpas e1 ⊢
    have h4w:k < w.turn.length:=by rw [e1];exact h4
    have hwk:w.turn[k]=x.turn[k]:=by simp only [e1]
    refine sO ?_
    refine zbe k (by omega) h4w ?_;conv=>whnf
    rw [hwk]
    refine sF ?_
    refine sO ?_
    refine zbe k (by omega) h4w ?_;conv=>whnf
    refine sD ?_
    rw [hpas] at next less
    refine ⟨⟨_,next⟩,(hle_Y (pK5 ((3,some 3) :: [(900,some 920),(901,some 921),(902,some 922),(903,some 923)])) (by repeat' (first | exact z0 | refine z1 ?_ | refine ⟨?_,?_⟩ | ((exact hbm w (x.turn[k]+1) e1 rfl)) | ((exact (hbm w (x.turn[k]+1) e1 rfl).symm)) | exact z2))),less⟩
 . rw [zws (by omega)] at he
   subst he
   refine sN ?_
   (refine zae [] [(1000,1000),(1001,900),(1002,901),(1003,902),(1004,903)] [(0,910),(1,911),(2,912),(3,913)] ?_;(conv=>whnf);refine dG (zrb x k _ hk ⟨h1,h2,h3,h4,by omega,by omega⟩) ?_ ⟨rfl,rfl,rfl,⟨⟨rfl,_,rfl,.inl ⟨rfl,rfl⟩⟩,⟨⟨rfl,_,rfl,.inl ⟨rfl,rfl⟩⟩,⟨⟨rfl,_,rfl,.inl ⟨rfl,rfl⟩⟩,⟨⟨rfl,_,rfl,.inl ⟨rfl,rfl⟩⟩,⟨⟨rfl,_,rfl,.inl ⟨rfl,rfl⟩⟩,trivial⟩⟩⟩⟩⟩,⟨⟨rfl,rfl⟩,⟨⟨rfl,rfl⟩,⟨⟨rfl,rfl⟩,⟨⟨rfl,rfl⟩,trivial⟩⟩⟩⟩,rfl,rfl,rfl⟩)
   exact yy101
end Rcv
namespace Rcv
open Srt Jn Ser
theorem yao {n:Nat}:∀ {S:List Piece} {i:Nat} {b:List UInt8},joinL n i S=some b -> b.length=tot S
 | [],_,_,h=>by rw [joinL] at h;cases h;rfl
 | p :: r,i,b,h=>by
  rw [joinL] at h
  split at h
  . obtain ⟨d,hd,rfl⟩:=Option.map_eq_some_iff.1 h
    rw [List.length_append,zdp,yao hd]
  . cases h
theorem yrl {l:List Piece} {b:List UInt8} (h:join l=some b):b.length=tot l:=by
 unfold join at h
 split at h
 . cases h
 . rw [yao h,ygr zld]
def logs (l:List Arrival):Nat:=(l.map fun a=>a.data.length).sum
theorem ygu (a b:List Arrival):logs (a++b)=logs a+logs b:=by simp [logs]
theorem yrm {l:List Arrival} {a:Arrival} (h:a ∈ l):a.data.length <= logs l:=by
 obtain ⟨x,y,rfl⟩:=List.append_of_mem h
 rw [ygu]
 simp [logs];omega
structure Goes (r r':Receiver) (d:Nat):Prop where
 len:r'.turn.length=r.turn.length
 cum:r'.cum=r.cum
 spans:r'.spans=r.spans
 config:r'.config=r.config
 pieces:r'.pieces.length <= r.pieces.length
 bytes:tot r'.pieces <= tot r.pieces
 log:r'.log.length+r'.pieces.length <= r.log.length+r.pieces.length
 mass:logs r'.log+tot r'.pieces <= logs r.log+tot r.pieces
 pre:r.log <+: r'.log
 lo:∀ L:Int,(∀ t ∈ r.turn,L < t) -> ∀ t ∈ r'.turn,L < t
 hi:∀ T:Int,(∀ t ∈ r.turn,t+r.pieces.length <= T) -> ∀ t ∈ r'.turn,t+r'.pieces.length <= T+d
theorem Goes.refl (r:Receiver):Goes r r 0:=⟨rfl,rfl,rfl,rfl,Nat.le_refl _,Nat.le_refl _,Nat.le_refl _,Nat.le_refl _,List.prefix_refl _,fun _ h=>h,fun T h t ht=>by have:=h t ht;omega⟩
theorem Goes.trans {a b c:Receiver} {d e:Nat} (h:Goes a b d) (k:Goes b c e):Goes a c (d+e):=by
 obtain ⟨a1,a2,a3,a4,a5,a6,a7,a8,a9,a10,a11⟩:=h
 obtain ⟨b1,b2,b3,b4,b5,b6,b7,b8,b9,b10,b11⟩:=k
 exact ⟨b1.trans a1,b2.trans a2,b3.trans a3,b4.trans a4,by omega,by omega,by omega,by omega,a9.trans b9,fun L h=>b10 L (a10 L h),fun T h t ht=>by have:=b11 (T+d) (a11 T h) t ht;omega⟩
theorem Goes.more {a b:Receiver} {d e:Nat} (h:Goes a b d) (k:d <= e):Goes a b e:={ h with hi:=fun T ht t hm=>by have:=h.hi T ht t hm;omega }
theorem yrn {l:List Piece} (f:Piece -> Bool):(l.filter fun p=>!f p).length+(l.filter f).length=l.length:=by
 induction l with
 | nil=>rfl
 | cons p l ih =>
  rw [List.filter_cons,List.filter_cons]
  cases f p <;> simp <;> omega
theorem ygv {l:List Piece} (f:Piece -> Bool):tot (l.filter fun p=>!f p)+tot (l.filter f)=tot l:=by
 induction l with
 | nil=>rfl
 | cons p l ih =>
  rw [List.filter_cons,List.filter_cons]
  cases f p <;> simp [zdp] <;> omega
theorem yap (r:Receiver) (s m:Int) (o:Bool):Goes r (dropR r s m o) 0:=by
 have h1:=yrn (l:=r.pieces) (mine s m o)
 have h2:=ygv (l:=r.pieces) (mine s m o)
 refine ⟨rfl,rfl,rfl,rfl,?_,?_,?_,?_,List.prefix_refl _,fun _ h=>h,fun T h t ht=>?_⟩
 . show (r.pieces.filter fun p=>!mine s m o p).length <= _;omega
 . show tot (r.pieces.filter fun p=>!mine s m o p) <= _;omega
 . show _+(r.pieces.filter fun p=>!mine s m o p).length <= _;show r.log.length+_ <= _;omega
 . show _+tot (r.pieces.filter fun p=>!mine s m o p) <= _;show logs r.log+_ <= _;omega
 . have:=h t ht
   show t+((r.pieces.filter fun p=>!mine s m o p).length:Int) <= _;omega
theorem zwt (r:Receiver) (s m:Int) (o:Bool):Goes r (dlv r s m o).1 0:=by
 obtain ⟨a1,a2,a3,a4,a5,a6,a7⟩:=zgb r s m o
 refine ⟨by rw [a1],a2,a3,a4,a5,a6,a7,?_,?_,fun L h=>by rw [a1];exact h,fun T h t ht=>by rw [a1] at ht;have:=h t ht;omega⟩
 . unfold dlv
   split
   . exact Nat.le_refl _
   . rename_i b hj
     have h1:=yrl hj
     have h2:=ygv (l:=r.pieces) (mine s m o)
     show logs (r.log++[_])+tot (r.pieces.filter fun p=>!mine s m o p) <= _
     rw [ygu]
     simp only [logs,List.map_cons,List.map_nil,List.sum_cons,List.sum_nil] at *
     omega
 . unfold dlv
   split
   . exact List.prefix_refl _
   . exact List.prefix_append _ _
theorem ydk {l:List Int} {k:Nat} {t:Int} (h:t ∈ l.set k (l[k]?.getD 0+1)):t ∈ l \/ (t - 1 ∈ l):=by
 by_cases hk:k < l.length
 . rcases List.mem_or_eq_of_mem_set h with h | h
   . exact .inl h
   . right
     rw [h,List.getElem?_eq_getElem hk]
     simp only [Option.getD_some]
     rw [show l[k]+1 - 1=l[k] by omega]
     exact List.getElem_mem hk
 . rw [List.set_eq_of_length_le (by omega)] at h
   exact .inl h
theorem zrd (r:Receiver) (k:Nat):Goes r (bump r k) 1:=by
 refine ⟨by show (r.turn.set k _).length=_;rw [List.length_set],rfl,rfl,rfl,Nat.le_refl _,Nat.le_refl _,Nat.le_refl _,Nat.le_refl _,List.prefix_refl _,fun L h t ht=>?_,fun T h t ht=>?_⟩
 . rcases ydk ht with h1 | h1
   . exact h t h1
   . have:=h _ h1;omega
 . show t+(r.pieces.length:Int) <= _
   rcases ydk ht with h1 | h1
   . have:=h t h1;omega
   . have:=h _ h1;omega
theorem yji {r x:Receiver} (k:Nat) (h:Goes r x 0) (hl:x.pieces.length < r.pieces.length) (ht:x.turn=r.turn):Goes r (bump x k) 0:=by
 have h1:=h.trans (zrd x k)
 refine { h1 with hi:=fun T hT t htm=>?_ }
 show t+(x.pieces.length:Int) <= _
 rcases ydk htm with h2 | h2
 . rw [ht] at h2;have:=hT t h2;omega
 . rw [ht] at h2;have:=hT _ h2;omega
theorem znb:∀ (n:Nat) (r:Receiver) (k:Nat),r.pieces.length < n -> Goes r (turns r k) 0
 | 0,r,k,h=>by omega
 | n+1,r,k,h=>by
  rw [zjt]
  have h1:=zwt r k (tag (r.turn[k]?.getD 0)) true
  split
  . rename_i hd
    have h2:=zhx hd
    have h3:=yji k h1 h2 (zgb r k (tag (r.turn[k]?.getD 0)) true).1
    exact h3.trans (znb n _ k (by show (dlv r k (tag (r.turn[k]?.getD 0)) true).1.pieces.length < n;omega))
  . exact h1
theorem yoi (r:Receiver) (k:Nat):Goes r (pass r k) 1:=by
 have h1:=zwt r k (tag (r.turn[k]?.getD 0)) true
 unfold pass
 split
 . exact h1.trans (zrd _ _)
 . exact (h1.trans (yap _ _ _ _)).trans (zrd _ _)
theorem zre:∀ (n:Nat) (r:Receiver) (k:Nat),Goes r (passes n r k) n
 | 0,r,_=>Goes.refl r
 | n+1,r,k=>((yoi r k).trans (zre n _ k)).more (by omega)
theorem yaq (r:Receiver) (s:Skip) (h:∀ t ∈ r.turn,-(2 ^ 60) < t /\ t < 2 ^ 60):Goes r (skip1 r s) 32769:=by
 unfold skip1
 split
 . exact (Goes.refl r).more (by omega)
 split
 . exact (yap _ _ _ _).more (by omega)
 rename_i c _
 have hk:s.stream.toNat < r.turn.length:=by omega
 have hb:=h _ (List.getElem_mem hk)
 have hg:r.turn[s.stream.toNat]?.getD 0=r.turn[s.stream.toNat]:=by simp [hk]
 obtain ⟨n1,n2,n3⟩:=zfy (a:=r.turn[s.stream.toNat]) (t:=s.mid) (by omega) (by omega)
 have h1:=zre (near r.turn[s.stream.toNat] s.mid+1 - r.turn[s.stream.toNat]).toNat r s.stream.toNat
 refine (Goes.trans (b:=upto r s.stream.toNat (near (r.turn[s.stream.toNat]?.getD 0) s.mid)) (d:=32769) (e:=0) ?_ (znb _ _ _ (Nat.lt_succ_self _)))
 unfold upto
 rw [hg]
 exact h1.more (by omega)
theorem yar:∀ (l:List Skip) (r:Receiver) (L T:Int),-(2 ^ 59) <= L -> T+l.length * 32769 < 2 ^ 59 -> (∀ t ∈ r.turn,L < t) -> (∀ t ∈ r.turn,t+r.pieces.length <= T) -> Goes r (l.foldl skip1 r) (l.length * 32769)
 | [],r,_,_,_,_,_,_=>(Goes.refl r).more (by omega)
 | s :: l,r,L,T,h1,h2,h3,h4=>by
  rw [List.length_cons] at h2
  have g:=yaq r s fun t ht=>by have:=h3 t ht;have:=h4 t ht;omega
  have g2:=yar l (skip1 r s) L (T+32769) h1 (by omega) (g.lo L h3) (g.hi T h4)
  rw [List.foldl_cons,List.length_cons]
  exact (g.trans g2).more (by omega)
def forward (r:Receiver) (c:Chunk):Receiver :=
 if ¬ c.kind=3 \/ near r.cum c.tag <= r.cum then r else c.skips.foldl skip1 { r with cum:=(up r.spans (near r.cum c.tag)).1,spans:=(up r.spans (near r.cum c.tag)).2 }
structure RFit (N:Nat) (r:Receiver):Prop where
 log:r.log.length+r.pieces.length <= N
 mass:logs r.log+tot r.pieces <= N
 many:r.spans.length <= N
 rise:rise r.spans
 above:∀ s ∈ r.spans,r.cum+1 < s.lo
 his:∀ s ∈ r.spans,s.hi <= r.cum+32768
 cum1:-1 <= r.cum
 cum2:r.cum <= 100000+32768 * N
 lo:∀ t ∈ r.turn,-1 < t
 hi:∀ t ∈ r.turn,t+r.pieces.length <= 32769 * N
 streams:r.turn.length < 2 ^ 30
theorem RFit.more {N M:Nat} {r:Receiver} (h:RFit N r) (k:N <= M):RFit M r :=
 ⟨by have:=h.log;omega,by have:=h.mass;omega,by have:=h.many;omega,h.rise,h.above,h.his,h.cum1,by have:=h.cum2;omega,h.lo,fun t ht=>by have:=h.hi t ht;omega,h.streams⟩
theorem RFit.fit {N:Nat} {r:Receiver} (h:RFit N r) (hN:N <= 2000000):Fit r:=by
 obtain ⟨h1,h2,h3,h4,h5,h6,h7,h8,h9,h10,h11⟩:=h
 exact ⟨by omega,by omega,by omega,by omega,by omega,fun a ha=>by have:=yrm ha;omega⟩
theorem RFit.dfit {N:Nat} {r:Receiver} (h:RFit N r) (hN:N <= 2000000) {c:Chunk} (hc:c.data.length <= 2 ^ 20):DFit r c:=by
 have hf:=h.fit hN
 obtain ⟨h1,h2,h3,h4,h5,h6,h7,h8,h9,h10,h11⟩:=h
 exact ⟨hf,h4,fun s hs=>by have:=h6 s hs;omega,by omega,by omega,fun t ht=>by have:=h9 t ht;have:=h10 t ht;omega,by omega,by omega,by omega⟩
theorem zwu:∀ {l:List Span} {n:Int} (_:Ser.rise l),n <= (up l n).1 /\ (up l n).2.length <= l.length /\ Ser.rise (up l n).2 /\ (∀ s ∈ (up l n).2,s ∈ l) /\ (∀ s ∈ (up l n).2,(up l n).1+1 < s.lo) /\ ((up l n).1=n \/ ∃ s ∈ l,(up l n).1=s.hi)
 | [],n,_=>by simp [up,Ser.rise]
 | s :: r,n,h=>by
  rw [up]
  split
  . rename_i c
    have ih:=zwu (l:=r) (n:=if s.hi > n then s.hi else n) h.2.2.2.2
    have h1:n <= (if s.hi > n then s.hi else n):=by split <;> omega
    have h2:(if s.hi > n then s.hi else n)=n \/ (if s.hi > n then s.hi else n)=s.hi:=by split <;> simp
    generalize (if s.hi > n then s.hi else n)=n' at *
    obtain ⟨i1,i2,i3,i4,i5,i6⟩:=ih
    refine ⟨by omega,by simp;omega,i3,fun t ht=>by simp [i4 t ht],i5,?_⟩
    rcases i6 with i6 | ⟨t,ht,e⟩
    . rcases h2 with h2 | h2
      . exact .inl (i6.trans h2)
      . exact .inr ⟨s,by simp,i6.trans h2⟩
    . exact .inr ⟨t,by simp [ht],e⟩
  . rename_i c
    refine ⟨Int.le_refl _,Nat.le_refl _,h,fun t ht=>ht,fun t ht=>?_,.inl rfl⟩
    have h0:=h.1
    rcases List.mem_cons.1 ht with rfl | ht
    . omega
    . have:=h.2.2.2.1 t ht;omega
theorem RFit.goes {N d e:Nat} {r r':Receiver} (h:RFit N r) (g:Goes r r' d) (hd:d <= 32769 * e):RFit (N+e) r':=by
 obtain ⟨h1,h2,h3,h4,h5,h6,h7,h8,h9,h10,h11⟩:=h
 obtain ⟨a1,a2,a3,a4,a5,a6,a7,a8,a9,a10,a11⟩:=g
 exact ⟨by omega,by omega,by rw [a3];omega,by rw [a3];exact h4,by rw [a2,a3];exact h5,fun s hs=>by rw [a3] at hs;have:=h6 s hs;omega,by omega,by omega,a10 _ h9,fun t ht=>by have:=a11 _ h10 t ht;omega,by omega⟩
theorem RFit.put {N:Nat} {r:Receiver} (h:RFit N r) (hN:N <= 2 ^ 21) {c:Chunk} (ht:Takes r c (near r.cum c.tag)):RFit (N+(c.data.length+1)) (put r c):=by
 obtain ⟨h1,h2,h3,h4,h5,h6,h7,h8,h9,h10,h11⟩:=h
 obtain ⟨n1,n2,n3⟩:=zfy (a:=r.cum) (t:=c.tag) (by omega) (by omega)
 have ha:=ht.above
 unfold Rcv.put
 generalize near r.cum c.tag=n at *
 have hadd:=yof (n:=n) (M:=r.cum+32768) h4 (by omega) (by omega) (fun s hs=>by have:=h6 s hs;omega) (by omega)
 have hal:=zwr r.spans n
 obtain ⟨u1,u2,u3,u4,u5,u6⟩:=zwu (n:=r.cum) (zwo h4 (n:=n) (by omega) (by omega)).1
 refine ⟨?_,?_,?_,u3,u5,fun s hs=>?_,?_,?_,h9,?_,h11⟩
 . simp only [List.length_append,List.length_singleton];omega
 . dsimp only
   rw [zja,zdp]
   have:tot []=0:=rfl
   dsimp only;omega
 . dsimp only;omega
 . have:=hadd s (u4 s hs);dsimp only;omega
 . dsimp only;omega
 . dsimp only
   rcases u6 with u6 | ⟨s,hs,u6⟩
   . omega
   . have:=hadd s hs;omega
 . intro t htt
   have:=h10 t htt
   simp only [List.length_append,List.length_singleton];omega
theorem yro {N:Nat} {r:Receiver} (h:RFit N r) (hN:N <= 2 ^ 21) (c:Chunk):RFit (N+(c.data.length+1)) (data r c):=by
 unfold data
 split
 . rename_i ht
   have hp:=h.put hN ht
   split
   . exact hp.goes (e:=0) (znb _ _ _ (Nat.lt_succ_self _)) (Nat.zero_le _)
   . exact hp.goes (e:=0) (zwt _ _ _ _) (Nat.zero_le _)
 . exact h.more (by omega)
theorem ydl {N:Nat} {r:Receiver} (h:RFit N r) (hN:N <= 2 ^ 21) (c:Chunk) (hc:c.skips.length <= 2 ^ 21):RFit (N+(c.skips.length+1)) (forward r c):=by
 unfold forward
 split
 . exact h.more (by omega)
 rename_i ht
 obtain ⟨h1,h2,h3,h4,h5,h6,h7,h8,h9,h10,h11⟩:=h
 obtain ⟨n1,n2,n3⟩:=zfy (a:=r.cum) (t:=c.tag) (by omega) (by omega)
 have ha:r.cum < near r.cum c.tag:=by
  apply Classical.byContradiction;intro hc;exact ht (.inr (by omega))
 generalize near r.cum c.tag=n at *
 obtain ⟨u1,u2,u3,u4,u5,u6⟩:=zwu (n:=n) h4
 have hw:RFit (N+1) { r with cum:=(up r.spans n).1,spans:=(up r.spans n).2 }:=by
  exact yy82
 have g:=yar c.skips { r with cum:=(up r.spans n).1,spans:=(up r.spans n).2 } (-1) (32769 * N) (by omega) (by omega) h9 h10
 exact (hw.goes (e:=c.skips.length) g (by omega)).more (by omega)
end Rcv
namespace Rcv
open Srt Jn Ser
theorem RFit.skip {N:Nat} {r:Receiver} (h:RFit N r) (hN:N <= 2 ^ 23) (s:Skip):RFit (N+1) (skip1 r s) :=
 h.goes (e:=1) (yaq r s fun t ht=>by have:=h.lo t ht;have:=h.hi t ht;omega) (by omega)
theorem RFit.sfit {N:Nat} {r:Receiver} (h:RFit N r) (hN:N < 2 ^ 22):SFit r:=by
 obtain ⟨h1,h2,h3,h4,h5,h6,h7,h8,h9,h10,h11⟩:=h
 exact ⟨by omega,by omega,by omega,fun t ht=>by have:=h9 t ht;omega,fun t ht=>by have:=h10 t ht;omega⟩
def at_up (r:Receiver) (n:Int):Receiver:={ r with cum:=(up r.spans n).1,spans:=(up r.spans n).2 }
theorem RFit.up {N:Nat} {r:Receiver} (h:RFit N r) (_:N <= 2 ^ 22) {n:Int} (n1:r.cum < n) (n2:n <= r.cum+32768):RFit (N+1) (at_up r n):=by
 obtain ⟨h1,h2,h3,h4,h5,h6,h7,h8,h9,h10,h11⟩:=h
 obtain ⟨u1,u2,u3,u4,u5,u6⟩:=zwu (n:=n) h4
 unfold at_up
 exact yy82
theorem yas (r:Receiver) (c:Chunk) {N:Nat} (h:RFit N r) (hN:N <= 2000000) (hc:c.skips.length <= 2 ^ 20) :
 FunOK Tryz.prog 153 [r.hv,c.hv] zad (rcvO (forward r c) 0 1 2 3) (lk .free (rcvB (forward r c) 0 1 2 3 [])):=by
 have hfit:=h.fit hN
 have h6:=h.his
 have h7:=h.cum1
 have h8:=h.cum2
 obtain ⟨n1,n2,n3⟩:=zfy (a:=r.cum) (t:=c.tag) (by omega) (by omega)
 generalize hD:forward r c=D
 refine zal mixed Tryz.func153 (by decide) [] (fun _=>.inl rfl) ?_
 conv=>whnf
 (refine zao [(0,910),(1,911),(2,912),(3,913)]  ?_;(conv=>whnf);refine dO (zci r hfit) ?_)
 (refine cL ?_;refine dL (zhc r.cum c.tag) ?_)
 by_cases c1:c.kind=3
 case neg =>
  obtain rfl:r=D:=by rw [<- hD,forward,if_pos (.inl c1)]
  refine zac (by simpa using c1) ?_;conv=>whnf
  exact yy104
 refine zab (by simp [c1]) ?_;conv=>whnf
 by_cases c2:near r.cum c.tag <= r.cum
 . obtain rfl:r=D:=by rw [<- hD,forward,if_pos (.inr c2)]
   refine zac (by simpa using c2) ?_;conv=>whnf
   exact yy104
 refine zab (by simpa using c2) ?_;conv=>whnf
 try (refine hcut.go ?_;conv=>whnf)
 have hw:=h.up (by omega) (n:=near r.cum c.tag) (by omega) (by omega)
 have e:c.skips.foldl skip1 (at_up r (near r.cum c.tag))=D:=by rw [<- hD,forward,if_neg (by simp [c1];omega)];rfl
 (refine zao [(0,37)]  ?_;(conv=>whnf);refine dO (yob r.spans (near r.cum c.tag) (fun s hs=>by have:=h6 s hs;omega) (by have:=hfit.spans;omega) (by omega) (by omega)) ?_)
 refine ⟨{ x:Receiver × List Skip × List Skip // c.skips=x.2.1++x.2.2 /\ RFit (N+1+x.2.1.length) x.1 /\ x.2.2.foldl skip1 x.1=D },fun | ⟨(x,a,b),_⟩=>hs 61 [(4,.ptr 4 0),(5,.ptr 12 0),(47,.p (.sl 3 (c.skips.map Skip.row))),(48,i64 c.skips.length),(49,i64 a.length)] ((4,.live (.cells 37 zeroR)) :: (12,.live (.cells 225 (rcvC x (.own 900) (.own 901) (.own 902) (.own 903)))) :: rcvB x 900 901 902 903 []),fun x=>x.1.2.2.length,⟨(at_up r (near r.cum c.tag),[],c.skips),rfl,hw,e⟩,?_,?_⟩
 . exact (hle_Q [(4,some 4),(12,some 12),(900,some 37),(901,some 911),(902,some 912),(903,some 913)])
 rintro ⟨⟨x,a,b⟩,h1,h2,h3⟩
 dsimp only at h1 h2 h3
 conv=>whnf
 cases b with
 | cons s b =>
  have hz:=zat h1
  refine sT ?_
  refine zah h1 rfl ?_;conv=>whnf
  (refine zae [] [(1000,12),(1001,900),(1002,901),(1003,902),(1004,903)] [(0,910),(1,911),(2,912),(3,913)] ?_;(conv=>whnf);refine dG (zqc x s (h2.sfit (by omega))) ?_)
  refine sF ?_
  exact ⟨⟨(skip1 x s,a++[s],b),zag h1,by have:=h2.skip (by omega) s;simpa [Nat.add_assoc] using this,h3⟩,(hle_Q [(4,some 4),(12,some 12),(900,some 910),(901,some 911),(902,some 912),(903,some 913)]),by simp⟩
 | nil =>
  have hz:=zaz h1
  have h3:x=D:=h3
  subst h3
  refine sN ?_
  (exact zbn [(0,some 900),(1,some 901),(2,some 902),(3,some 903)])
theorem ztr (l:List Piece) (c:Chunk) (hb:l.length < 2 ^ 36):FunOK Tryz.prog 177 [pieces l,c.hv] zad (.tup [pieces (l.filter (mine c.stream c.mid c.ordered)),pieces (l.filter fun p=>!mine c.stream c.mid c.ordered p)]) zad:=by
 refine zai mixed Tryz.func177 (by decide) ?_
 conv=>whnf
 refine ⟨{ x:List Piece × List Piece // l=x.1++x.2 },fun | ⟨(a,b),_⟩=>hs 49 [(3,.ptr 3 0),(6,.own 900),(7,.own 901),(10,pieces l),(11,i64 l.length),(12,i64 a.length)] [(3,.live (.cells 61 c.cells)),(900,rowP (a.filter (mine c.stream c.mid c.ordered))),(901,rowP (a.filter fun p=>!mine c.stream c.mid c.ordered p))],fun x=>x.1.2.length,⟨([],l),rfl⟩,?_,?_⟩
 . exact (hle_Q [(3,some 3),(900,none),(901,none)])
 rintro ⟨⟨a,b⟩,h⟩
 dsimp only at h
 have hfa:=List.length_filter_le (mine c.stream c.mid c.ordered) a
 have hfb:=List.length_filter_le (fun p=>!mine c.stream c.mid c.ordered p) a
 conv=>whnf
 cases b with
 | cons p b =>
  have hz:=zat h
  refine sT ?_
  refine zah h rfl ?_;conv=>whnf
  have e1:(a++[p]).filter (mine c.stream c.mid c.ordered)=a.filter (mine c.stream c.mid c.ordered)++if mine c.stream c.mid c.ordered p then [p] else []:=by
   rw [List.filter_append,List.filter_cons];rfl
  have e2:(a++[p]).filter (fun p=>!mine c.stream c.mid c.ordered p)=a.filter (fun p=>!mine c.stream c.mid c.ordered p)++if mine c.stream c.mid c.ordered p then [] else [p]:=by
   rw [List.filter_append,List.filter_cons];cases mine c.stream c.mid c.ordered p <;> rfl
  by_cases c1:p.chunk.stream=c.stream
  case neg =>
   have hm:mine c.stream c.mid c.ordered p=false:=by simp [mine,c1]
   rw [hm] at e1 e2
   refine zab (by simpa using c1) ?_;conv=>whnf
   exact yy22
  refine zac (by simpa using c1) ?_;conv=>whnf
  by_cases c2:p.chunk.mid=c.mid
  case neg =>
   have hm:mine c.stream c.mid c.ordered p=false:=by simp [mine,c2]
   rw [hm] at e1 e2
   refine zab (by simpa using c2) ?_;conv=>whnf
   exact yy22
  refine zac (by simpa using c2) ?_;conv=>whnf
  by_cases c3:p.chunk.ordered=c.ordered
  case neg =>
   have hm:mine c.stream c.mid c.ordered p=false:=by simp [mine,c3]
   rw [hm] at e1 e2
   refine zab (by simpa using c3) ?_;conv=>whnf
   exact yy22
  have hm:mine c.stream c.mid c.ordered p=true:=by simp [mine,c1,c2,c3]
  rw [hm] at e1 e2
  refine zac (by simpa using c3) ?_;conv=>whnf
  try (refine hcut.go ?_;conv=>whnf)
  refine zaa (c:=(((a.filter (mine c.stream c.mid c.ordered)).map Piece.row).length+1) * 136 <= 140737488355328) (by simp;omega) ?_;conv=>whnf
  try (refine hcut.go ?_;conv=>whnf)
  refine sF ?_
  exact ⟨⟨(a++[p],b),zag h⟩,(hle_X [(3,some 3),(900,some 41),(901,some 901)] (by repeat' (first | exact z0 | refine z1 ?_ | refine ⟨?_,?_⟩ | ((exact zau (f:=Piece.row) e1 rfl)) | ((exact zan (by rw [e2];simp))) | exact z2))),by simp⟩
 | nil =>
  have hz:=zaz h
  rw [List.append_nil] at h
  refine sN ?_
  rw [h]
  try rfl
end Rcv
namespace Rcv
open Srt Jn Ser
abbrev rints (l:List Int):HV:=.p (.sl 1 (l.map fun n=>[pi n]))
abbrev arrs (l:List Arrival):HV:=.p (.sl 4 (l.map Arrival.row))
def rdlv (r:Receiver) (s m:Int) (o any:Bool):Receiver × Bool :=
 (if (dlv r s m o).2 then (dlv r s m o).1 else if any then dropR r s m o else r,(dlv r s m o).2)
theorem zts (r:Receiver) (s m:Int) (o:Bool):rdlv r s m o false=dlv r s m o:=by
 unfold rdlv dlv
 split <;> rfl
theorem zhy (r:Receiver) (c:Chunk) (any:Bool) (h2:r.pieces.length < 2 ^ 22) (h3:tot r.pieces < 2 ^ 22) (h4:r.log.length < 2 ^ 38) :
 FunOK Tryz.prog 176 [r.hv,c.hv,hbool any] zad (.tup [(rdlv r c.stream c.mid c.ordered any).1.hv,hbool (rdlv r c.stream c.mid c.ordered any).2]) zad:=by
 refine zai mixed Tryz.func176 (by decide) ?_
 have hf:=List.length_filter_le (mine c.stream c.mid c.ordered) r.pieces
 have ht:=zhj (mine c.stream c.mid c.ordered) r.pieces
 conv=>whnf
 (refine cP ?_;refine dL (ztr r.pieces c (by omega)) ?_)
 have ps:=yjg (r.pieces.filter (mine c.stream c.mid c.ordered)) (by omega) (by omega)
 cases hj:join (r.pieces.filter (mine c.stream c.mid c.ordered)) with
 | none =>
  rw [hj] at ps
  have hd:dlv r c.stream c.mid c.ordered=(r,false):=by rw [dlv,hj]
  (refine zao [(0,910)]  ?_;(conv=>whnf);refine dO ps ?_)
  cases any with
  | false =>
   conv=>whnf
   try (refine hcut.go ?_;conv=>whnf)
   rw [rdlv,hd];rfl
  | true =>
   conv=>whnf
   try (refine hcut.go ?_;conv=>whnf)
   rw [rdlv,hd];rfl
 | some b =>
  rw [hj] at ps
  have hd:dlv r c.stream c.mid c.ordered=({ dropR r c.stream c.mid c.ordered with log:=r.log++[⟨c.stream,c.mid,c.ordered,b⟩] },true):=by rw [dlv,hj]
  (refine zao [(0,910)]  ?_;(conv=>whnf);refine dO ps ?_)
  refine zaa (c:=(([]:List (List PV)).length+(r.log.map Arrival.row).length) * 48 <= 140737488355328) (by simp;omega) ?_;conv=>whnf
  try (refine hcut.go ?_;conv=>whnf)
  refine zaa (c:=(([]++r.log.map Arrival.row).length+1) * 48 <= 140737488355328) (by simp;omega) ?_;conv=>whnf
  refine sD ?_
  rw [rdlv,hd]
  have hl:r.log.map Arrival.row++[Arrival.row ⟨c.stream,c.mid,c.ordered,b⟩]=(r.log++[(⟨c.stream,c.mid,c.ordered,b⟩:Arrival)]).map Arrival.row:=by simp
  exact congrArg (fun l=>HV.tup [.agg (rcvC r (spans r.spans) (pieces (r.pieces.filter fun p=>!mine c.stream c.mid c.ordered p)) (rints r.turn) (.p (.sl 4 l))),hbool true]) hl
theorem yss {r:Receiver} {s m:Int} {o:Bool} (h:(dlv r s m o).2=false):(dlv r s m o).1=r:=by
 unfold dlv at h ⊢
 split
 . rfl
 . rename_i b hj;rw [hj] at h;cases h
theorem yoj (r:Receiver) (s m:Int) (h2:r.pieces.length < 2 ^ 22) (h3:tot r.pieces < 2 ^ 22) (h4:r.log.length < 2 ^ 38) :
 FunOK Tryz.prog 176 [r.hv,(Chunk.mk 0 0 s m 0 false true [] [] 0 []).hv,hbool false] zad (.tup [(dlv r s m true).1.hv,hbool (dlv r s m true).2]) zad:=by
 have h:=zhy r (Chunk.mk 0 0 s m 0 false true [] [] 0 []) false h2 h3 h4
 rwa [zts] at h
theorem ydm (r:Receiver) (k:Nat) (hf:TFit r k) (ht9:r.turn.length < 2 ^ 30):FunOK Tryz.prog 175 [r.hv,i64 k] zad (turns r k).hv zad:=by
 generalize hT:turns r k=T
 refine zai mixed Tryz.func175 (by decide) ?_
 conv=>whnf
 refine ⟨{ x:Bool × Receiver // TFit x.2 k /\ turns x.2 k=T /\ x.2.turn.length < 2 ^ 30 },fun
  | ⟨(false,x),_⟩=>hs 36 [(1,i64 k),(2,.ptr 2 0),(4,.ptr 4 0)] [(2,.live (.cells 37 (rcvC x (spans x.spans) (pieces x.pieces) (rints x.turn) (arrs x.log)))),(4,.live (.cells 37 zeroR))]
  | ⟨(true,x),_⟩=>hs 36 [(1,i64 k),(2,.ptr 2 0),(4,.ptr 4 0)] [(2,.live (.cells 37 (rcvC x (spans x.spans) (pieces x.pieces) (.own 900) (arrs x.log)))),(4,.live (.cells 37 zeroR)),(900,rowT x.turn)],fun x=>x.1.2.pieces.length,⟨(false,r),hf,hT,ht9⟩,?_,?_⟩
 . exact (hle_Q [(2,some 2),(4,some 4)])
 rintro ⟨⟨b,x⟩,⟨h1,h2,h3,h4,h5,h6⟩,he,h9⟩
 dsimp only at h1 h2 h3 h4 h5 h6 he h9
 have hg:x.turn[k]?.getD 0=x.turn[k]:=by simp [h4]
 have hstep:=zjt x k
 rw [he,hg] at hstep
 rw [hg] at h5 h6
 obtain ⟨k1,k2,k3,k4,k5,k6,k7⟩:=zgb x k (tag x.turn[k]) true
 have hless:(dlv x k (tag x.turn[k]) true).2=true -> (dlv x k (tag x.turn[k]) true).1.pieces.length < x.pieces.length:=fun h=>zhx h
 have hno:(dlv x k (tag x.turn[k]) true).2=false -> (dlv x k (tag x.turn[k]) true).1=x:=fun h=>yss h
 have ps:=yoj x k (tag x.turn[k]) (by omega) (by omega) (by omega)
 generalize hD:dlv x k (tag x.turn[k]) true=D at *
 obtain ⟨y,ok⟩:=D
 dsimp only at k1 k2 k3 k4 k5 k6 k7 hless hstep hno ps
 have h4':k < y.turn.length:=by rw [k1];exact h4
 have hyk:y.turn[k]=x.turn[k]:=by simp only [k1]
 cases b with
 | false =>
  exact yy14
 | true =>
  exact yy14
end Rcv
namespace Rcv
open Srt Jn Ser
theorem yat (l:List Span) (n:Int) (hr:rise l) (hl:∀ s ∈ l,s.hi <= 1099511627776) (hb:l.length < 2 ^ 39) (h1:-1099511627776 <= n) (h2:n <= 1099511627776) :
 FunOK Tryz.prog 173 [spans l,i64 n] zad (.tup [i64 (up l n).1,spans (up l n).2]) zad:=by
 refine zbt Tryz.func173 (yrj l n hr hl hb h1 h2) ?_
 conv=>whnf
theorem yjj (l:List Span) (n:Int) (hn:has l n=false) (hl:rise l) (hb:l.length < 2 ^ 39) (h1:-1099511627776 <= n) (h2:n <= 1099511627776) :
 FunOK Tryz.prog 174 [spans l,i64 n] zad (spans (add l n)) zad:=by
 refine zbt Tryz.func174 (yoc l n hn hl hb h1 h2) ?_
 conv=>whnf
theorem zfk (r:Receiver) (k:Nat) (z:Int) (hz:z=k) {rows:List (List PV)} (hrows:rows=r.pieces.map Piece.row) (hf:TFit r k) (ht9:r.turn.length < 2 ^ 30) :
 FunOK Tryz.prog 175 [.agg (rcvC r (spans r.spans) (.p (.sl 12 rows)) (rints r.turn) (arrs r.log)),i64 z] zad (turns r k).hv zad:=by
 subst hz hrows;exact ydm r k hf ht9
theorem zlw (r:Receiver) (c:Chunk) {rows:List (List PV)} (hrows:rows=r.pieces.map Piece.row) (h2:r.pieces.length < 2 ^ 22) (h3:tot r.pieces < 2 ^ 22) (h4:r.log.length < 2 ^ 38) :
 FunOK Tryz.prog 176 [.agg (rcvC r (spans r.spans) (.p (.sl 12 rows)) (rints r.turn) (arrs r.log)),c.hv,hbool false] zad (.tup [(dlv r c.stream c.mid c.ordered).1.hv,hbool (dlv r c.stream c.mid c.ordered).2]) zad:=by
 subst hrows
 have h:=zhy r c false h2 h3 h4
 rwa [zts] at h
theorem yjk (r:Receiver) (c:Chunk) {N:Nat} (h:RFit N r) (hN:N <= 2000000) (hc:c.data.length <= 2 ^ 20):FunOK Tryz.prog 146 [r.hv,c.hv] zad (data r c).hv zad:=by
 obtain ⟨h1,h2,h3,h4,h5,h6,h7,h8,h9⟩:=h.dfit hN hc
 obtain ⟨n1,n2,n3⟩:=zfy (a:=r.cum) (t:=c.tag) (by omega) (by omega)
 generalize hD:data r c=D
 refine zai mixed Tryz.func146 (by decide) ?_
 conv=>whnf
 (refine cL ?_;refine dL (zhd r.cum c.tag (by omega) (by omega)) ?_)
 have no:¬ Takes r c (near r.cum c.tag) -> D=r:=fun h=>by rw [<- hD,data,if_neg h]
 by_cases c1:c.kind=1
 case neg =>
  have e:=no fun h=>c1 h.1
  subst e
  refine zac (by simpa using c1) ?_;conv=>whnf
  repeat (refine hcut.go ?_;conv=>whnf)
  try rfl
 refine zab (by simp [c1]) ?_;conv=>whnf
 by_cases c2:c.stream < 0
 . have e:=no fun h=>by have:=h.2;omega
   subst e
   refine zac (by simpa using c2) ?_;conv=>whnf
   repeat (refine hcut.go ?_;conv=>whnf)
   try rfl
 refine zab (by simpa using c2) ?_;conv=>whnf
 by_cases c3:c.stream >= r.turn.length
 . have e:=no fun h=>by have:=h.3;omega
   subst e
   refine zac (by simpa using c3) ?_;conv=>whnf
   repeat (refine hcut.go ?_;conv=>whnf)
   try rfl
 refine zab (by simpa using c3) ?_;conv=>whnf
 by_cases c4:near r.cum c.tag <= r.cum
 . have e:=no fun h=>by have:=h.4;omega
   subst e
   refine zac (by simpa using c4) ?_;conv=>whnf
   repeat (refine hcut.go ?_;conv=>whnf)
   try rfl
 refine zab (by simpa using c4) ?_;conv=>whnf
 (refine cL ?_;refine dL (ycm r.spans (near r.cum c.tag) (by have:=h1.spans;omega)) ?_)
 cases c5:has r.spans (near r.cum c.tag) with
 | true =>
  have e:=no fun h=>by have:=h.5;rw [c5] at this;cases this
  subst e
  conv=>whnf
  repeat (refine hcut.go ?_;conv=>whnf)
  try rfl
 | false =>
 conv=>whnf
 repeat (refine hcut.go ?_;conv=>whnf)
 refine sF ?_
 have g1:=h1.spans
 have g2:=h1.log
 have rest:Takes r c (near r.cum c.tag) -> D=if c.ordered then turns (put r c) c.stream.toNat else (dlv (put r c) c.stream c.mid false).1:=fun h=>by rw [<- hD,data,if_pos h]
 have hput:tot (put r c).pieces=tot r.pieces+c.data.length:=by show tot (r.pieces++[_])=_;rw [zja,zdp];rfl
 have hpl:(put r c).pieces.length=r.pieces.length+1:=by show (r.pieces++[_]).length=_;simp
 have hadd:=yof (n:=near r.cum c.tag) (M:=1099511627776) h2 (by omega) (by omega) (fun s hs=>by have:=h3 s hs;omega) (by omega)
 have hal:=zwr r.spans (near r.cum c.tag)
 have har:=(zwo h2 (n:=near r.cum c.tag) (by omega) (by omega)).1
 by_cases c6:near r.cum c.tag=r.cum+1
 case' pos =>
  have ok:Takes r c (near r.cum c.tag):=⟨c1,by omega,by omega,by omega,c5,.inl c6⟩
  refine zab (by rw [decide_eq_false_iff_not];omega) ?_;conv=>whnf
  ((refine zap ?_ ?_;(· kernel_rfl);conv=>whnf);try (refine hcut.go ?_;conv=>whnf))
 case' neg =>
  refine zac (by rw [decide_eq_true_eq];omega) ?_;conv=>whnf
  (refine cL ?_;refine dL (zmz r (by omega) (by omega)) ?_)
  refine sF ?_
  by_cases c7:(tot r.pieces:Int)+c.data.length > 400
  case pos =>
   have e:=no fun h=>by have:=h.6;omega
   subst e
   refine sD ?_
   refine zac (by simpa using c7) ?_;conv=>whnf
   repeat (refine hcut.go ?_;conv=>whnf)
   try rfl
  have ok:Takes r c (near r.cum c.tag):=⟨c1,by omega,by omega,by omega,c5,.inr (by omega)⟩
  refine sD ?_
  refine zab (by simpa using c7) ?_;conv=>whnf
  repeat (refine hcut.go ?_;conv=>whnf)
 all_goals (
  have rest:=rest ok
  refine zaa (c:=(([]:List (List PV)).length+(r.pieces.map Piece.row).length) * 136 <= 140737488355328) (by simp;omega) ?_;conv=>whnf
  try (refine hcut.go ?_;conv=>whnf)
  refine zaa (c:=(([]++r.pieces.map Piece.row).length+1) * 136 <= 140737488355328) (by simp;omega) ?_;conv=>whnf
  refine sD ?_
  (refine cP ?_;refine dL (yjj r.spans (near r.cum c.tag) c5 h2 (by omega) (by omega) (by omega)) ?_)
  (refine cP ?_;refine dL (yat (add r.spans (near r.cum c.tag)) r.cum har hadd (by omega) (by omega) (by omega)) ?_)
  refine sD ?_
  obtain ⟨k,hk⟩:∃ k:Nat,c.stream=k:=⟨c.stream.toNat,by omega⟩
  have hkl:k < r.turn.length:=by omega
  have htk:(put r c).turn[k]?.getD 0=r.turn[k]:=by show r.turn[k]?.getD 0=_;rw [List.getElem?_eq_getElem hkl];rfl
  have htb:=h6 _ (List.getElem_mem hkl)
  refine zaf (fun ho=>?_) (fun ho=>?_)
  . rw [if_pos ho,show c.stream.toNat=k by omega] at rest
    subst rest
    conv=>whnf
    ((refine zbw ?_;(conv=>whnf);refine ⟨_,zfk (put r c) k _ hk (by simp [put];rfl) ⟨by omega,by omega,by show r.log.length+_ < _;omega,hkl,by rw [htk];omega,by rw [htk];omega⟩ h.streams,rfl,?_⟩;conv=>whnf);try (refine hcut.go ?_;conv=>whnf))
    try rfl
  . rw [if_neg (by rw [ho];decide)] at rest
    subst rest
    conv=>whnf
    (refine cP ?_;refine dL (zlw (put r c) c (by simp [put];rfl) (by omega) (by omega) (by show r.log.length < _;omega)) ?_)
    rw [ho]
    try rfl)
end Rcv
namespace Rcv
open Srt Jn Ser
theorem yau {r:Receiver} {k:Nat} {t:Int} (h:r.turn[k]?.getD 0=t):pass r k=bump (rdlv r k (tag t) true true).1 k:=by
 subst h
 unfold pass rdlv
 cases hd:(dlv r k (tag (r.turn[k]?.getD 0)) true).2 with
 | true=>rfl
 | false=>rw [yss hd];rfl
theorem yav (r:Receiver) (s m:Int) (o any:Bool):(rdlv r s m o any).1.turn=r.turn:=by
 unfold rdlv
 split
 . exact (zgb r s m o).1
 . split <;> rfl
theorem ztt (r:Receiver) (s m z:Int) (hz:z=m) (h2:r.pieces.length < 2 ^ 22) (h3:tot r.pieces < 2 ^ 22) (h4:r.log.length < 2 ^ 38) :
 FunOK Tryz.prog 176 [r.hv,(Chunk.mk 0 0 s z 0 false true [] [] 0 []).hv,hbool true] zad (.tup [(rdlv r s m true true).1.hv,hbool (rdlv r s m true true).2]) zad:=by
 subst hz
 exact zhy r (Chunk.mk 0 0 s z 0 false true [] [] 0 []) true h2 h3 h4
def fwIn (k:Nat) (n:Int) (T:Receiver) (y:Bool × Receiver × Int):Prop:=TFit y.2.1 k /\ y.2.1.turn[k]?.getD 0=y.2.2 /\ y.2.2 <= 2 ^ 58 /\ turns (upto y.2.1 k n) k=T /\ y.2.1.turn.length < 2 ^ 30
def fwSt (c:Chunk) (s:Skip) (L:Nat) (n:Int):Bool × Receiver × Int -> HS
 | (false,y,m)=>hs 118 [(2,.ptr 2 0),(4,.ptr 4 0),(7,.ptr 7 0),(10,i64 n),(11,i64 m),(37,.p (.sl 3 (c.skips.map Skip.row))),(38,i64 c.skips.length),(39,i64 L)] [(2,.live (.cells 37 (rcvC y (spans y.spans) (pieces y.pieces) (rints y.turn) (arrs y.log)))),(4,.live (.cells 37 zeroR)),(7,.live (.cells 180 [i64 s.stream,i64 s.mid,hbool s.ordered]))]
 | (true,y,m)=>hs 118 [(2,.ptr 2 0),(4,.ptr 4 0),(7,.ptr 7 0),(10,i64 n),(11,i64 m),(37,.p (.sl 3 (c.skips.map Skip.row))),(38,i64 c.skips.length),(39,i64 L)] [(2,.live (.cells 37 (rcvC y (spans y.spans) (pieces y.pieces) (.own 900) (arrs y.log)))),(4,.live (.cells 37 zeroR)),(7,.live (.cells 180 [i64 s.stream,i64 s.mid,hbool s.ordered])),(900,rowT y.turn)]
def fwOut (c:Chunk) (L:Nat) (x:Receiver):HS:=hs 118 [(2,.ptr 2 0),(4,.ptr 4 0),(37,.p (.sl 3 (c.skips.map Skip.row))),(38,i64 c.skips.length),(39,i64 L)] [(2,.live (.cells 37 (rcvC x (spans x.spans) (pieces x.pieces) (rints x.turn) (arrs x.log)))),(4,.live (.cells 37 zeroR))]
theorem zwv (r:Receiver) (c:Chunk) {N:Nat} (h:RFit N r) (hN:N <= 2000000) (hc:c.skips.length <= 2 ^ 20):FunOK Tryz.prog 147 [r.hv,c.hv] zad (forward r c).hv zad:=by
 have hfit:=h.fit hN
 have h4:=h.rise
 have h6:=h.his
 have h7:=h.cum1
 have h8:=h.cum2
 obtain ⟨n1,n2,n3⟩:=zfy (a:=r.cum) (t:=c.tag) (by omega) (by omega)
 generalize hD:forward r c=D
 refine zai mixed Tryz.func147 (by decide) ?_
 conv=>whnf
 (refine cL ?_;refine dL (zhd r.cum c.tag (by omega) (by omega)) ?_)
 by_cases c1:c.kind=3
 case neg =>
  obtain rfl:r=D:=by rw [<- hD,forward,if_pos (.inl c1)]
  refine zac (by simpa using c1) ?_;conv=>whnf
  repeat (refine hcut.go ?_;conv=>whnf)
  try rfl
 refine zab (by simp [c1]) ?_;conv=>whnf
 by_cases c2:near r.cum c.tag <= r.cum
 . obtain rfl:r=D:=by rw [<- hD,forward,if_pos (.inr c2)]
   refine zac (by simpa using c2) ?_;conv=>whnf
   repeat (refine hcut.go ?_;conv=>whnf)
   try rfl
 refine zab (by simpa using c2) ?_;conv=>whnf
 repeat (refine hcut.go ?_;conv=>whnf)
 have hw:=h.up (by omega) (n:=near r.cum c.tag) (by omega) (by omega)
 have e:c.skips.foldl skip1 (at_up r (near r.cum c.tag))=D:=by rw [<- hD,forward,if_neg (by simp [c1];omega)];rfl
 (refine cP ?_;refine dL (yat r.spans (near r.cum c.tag) h4 (fun s hs=>by have:=h6 s hs;omega) (by have:=hfit.spans;omega) (by omega) (by omega)) ?_)
 refine ⟨{ x:Receiver × List Skip × List Skip // c.skips=x.2.1++x.2.2 /\ RFit (N+1+x.2.1.length) x.1 /\ x.2.2.foldl skip1 x.1=D },fun x=>fwOut c x.1.2.1.length x.1.1,fun x=>x.1.2.2.length,⟨(at_up r (near r.cum c.tag),[],c.skips),rfl,hw,e⟩,?_,?_⟩
 . exact (hle_Q [(2,some 2),(4,some 4)])
 rintro ⟨⟨x,a,b⟩,h1,h2,h3⟩
 dsimp only at h1 h2 h3
 refine zbh fun Q0 hQ0=>?_
 conv=>whnf
 cases b with
 | nil =>
  have hz:=zaz h1
  have h3:x=D:=h3
  subst h3
  refine sN ?_
  refine hQ0 _ _ ?_;conv=>whnf
  try rfl
 | cons s b =>
  have hz:=zat h1
  have hsf:=h2.sfit (by omega)
  obtain ⟨f1,f2,f3,f4,f5⟩:=hsf
  have next:RFit (N+1+(a++[s]).length) (skip1 x s):=by have:=h2.skip (by omega) s;simpa [Nat.add_assoc] using this
  have h2h:=h2.hi
  have h2l:=h2.lo
  have h2s:=h2.streams
  have h3:b.foldl skip1 (skip1 x s)=D:=h3
  generalize hT:skip1 x s=T at next h3
  refine sT ?_
  refine zah h1 rfl ?_;conv=>whnf
  by_cases c3:s.stream < 0
  . rw [skip1,if_pos (.inl c3)] at hT
    subst hT
    refine zac (by simpa using c3) ?_;conv=>whnf
    exact yy116
  refine zab (by simpa using c3) ?_;conv=>whnf
  by_cases c4:(x.turn.length:Int) <= s.stream
  . rw [skip1,if_pos (.inr c4)] at hT
    subst hT
    refine zac (by simpa using c4) ?_;conv=>whnf
    exact yy116
  refine zab (by simpa using c4) ?_;conv=>whnf
  repeat (refine hcut.go ?_;conv=>whnf)
  refine zaf (fun ho=>?_) (fun ho=>?_)
  . have ho:s.ordered=false:=by simpa using ho
    rw [skip1,if_neg (by omega),if_pos ho] at hT
    conv=>whnf
    repeat (refine hcut.go ?_;conv=>whnf)
    (refine cP ?_;refine dL (ztr x.pieces (Chunk.mk 0 0 s.stream s.mid 0 false false [] [] 0 []) (by omega)) ?_)
    subst hT
    refine sF ?_
    refine hQ0 _ _ ?_;conv=>whnf
    exact ⟨⟨(dropR x s.stream s.mid false,a++[s],b),zag h1,next,h3⟩,(hle_Q [(2,some 2),(4,some 4)]),by simp⟩
  have ho:s.ordered=true:=by simpa using ho
  rw [skip1,if_neg (by omega),if_neg (by rw [ho];decide)] at hT
  obtain ⟨k,hk⟩:∃ k:Nat,s.stream=k:=⟨s.stream.toNat,by omega⟩
  have hkl:k < x.turn.length:=by omega
  have hg:x.turn[k]?.getD 0=x.turn[k]:=by simp [hkl]
  have b1:=h2l _ (List.getElem_mem hkl)
  have b2:=h2h _ (List.getElem_mem hkl)
  have b3:=f5 _ (List.getElem_mem hkl)
  rw [show s.stream.toNat=k by omega,hg] at hT
  conv=>whnf
  repeat (refine hcut.go ?_;conv=>whnf)
  refine zbe k (by omega) hkl ?_;conv=>whnf
  (refine cL ?_;refine dL (zhd x.turn[k] s.mid (by omega) (by omega)) ?_)
  refine sD ?_
  obtain ⟨m1,m2,m3⟩:=zfy (a:=x.turn[k]) (t:=s.mid) (by omega) (by omega)
  generalize near x.turn[k] s.mid=n at hT m1 m2 m3 ⊢
  refine zbe k (by omega) hkl ?_;conv=>whnf
  have start:fwIn k n T (false,x,x.turn[k]):=⟨⟨f1,f2,f3,hkl,by show _ < x.turn[k]?.getD 0;rw [hg];omega,by show x.turn[k]?.getD 0+(x.pieces.length:Int) < _;rw [hg];omega⟩,hg,by dsimp only;omega,hT,h2s⟩
  refine ⟨{ y:Bool × Receiver × Int // fwIn k n T y },fun y=>fwSt c s a.length n y.1,fun y=>(n+1 - y.1.2.2).toNat,⟨(false,x,x.turn[k]),start⟩,?_,?_⟩
  . exact (hle_Q [(2,some 2),(4,some 4),(7,some 7)])
  rintro ⟨⟨bb,y,m⟩,⟨g1,g2,g3,g4,g5,g6⟩,gm,g7,he,g9⟩
  dsimp only at g1 g2 g3 g4 g5 g6 gm g7 he g9
  rw [gm] at g5 g6
  refine zbh fun Q hQ=>?_
  cases bb with
  | false =>
   exact yy10
  | true =>
   exact yy10
end Rcv
namespace Rcv
open Srt Jn Ser
theorem ydn (r:Receiver) (h1:r.spans.length < 2 ^ 40) (h2:r.pieces.length < 2 ^ 40) (h3:tot r.pieces < 2 ^ 60) (hc:-(2 ^ 60) <= r.cum) (hc2:r.cum <= 2 ^ 60) (hsp:∀ s ∈ r.spans,-(2 ^ 61) <= s.lo /\ s.lo <= 2 ^ 61 /\ -(2 ^ 61) <= s.hi /\ s.hi <= 2 ^ 61) :
 FunOK Tryz.prog 148 [r.hv] zad (tells r).hv zad:=by
 by_cases c0:400 - (tot r.pieces:Int) > 0
 . have e:tells r=⟨2,tag r.cum,0,0,0,false,false,[],(r.spans.take 6).map (shift r.cum),400 - (tot r.pieces:Int),[]⟩:=by rw [tells,if_neg (by omega)]
   rw [e]
   refine zai mixed Tryz.func148 (by decide) ?_
   conv=>whnf
   (refine cL ?_;refine dL (zbv r.cum) ?_)
   (refine cL ?_;refine dL (zmz r (by omega) (by omega)) ?_)
   refine sF ?_
   refine zac (by simpa using c0) ?_;conv=>whnf
   repeat (refine hcut.go ?_;conv=>whnf)
   refine ⟨{ x:List Span × List Span // r.spans=x.1++x.2 },fun | ⟨(A,B),_⟩=>hs 46 [(1,.ptr 1 0),(2,.ptr 2 0),(3,.ptr 3 0),(19,spans r.spans),(20,i64 r.spans.length),(21,i64 A.length)] [(1,.live (.cells 37 (rcvC r (spans r.spans) (pieces r.pieces) (rints r.turn) (arrs r.log)))),(2,.live (.cells 61 [i64 0,i64 0,i64 0,i64 0,i64 0,hbool false,hbool false,hnil,hnil,i64 0,hnil])),(3,.live (.cells 61 [i64 2,i64 (tag r.cum),i64 0,i64 0,i64 0,hbool false,hbool false,hnil,.own 900,i64 (400 - (tot r.pieces:Int)),hnil])),(900,rowS ((A.take 6).map (shift r.cum)))],fun x=>x.1.2.length,⟨([],r.spans),rfl⟩,?_,?_⟩
   . exact (hle_Q [(1,some 1),(2,some 2),(3,some 3),(900,none)])
   exact yy17
 . have e:tells r=⟨2,tag r.cum,0,0,0,false,false,[],(r.spans.take 6).map (shift r.cum),0,[]⟩:=by
    rw [tells]
    congr 1
    split <;> omega
   rw [e]
   refine zai mixed Tryz.func148 (by decide) ?_
   conv=>whnf
   (refine cL ?_;refine dL (zbv r.cum) ?_)
   (refine cL ?_;refine dL (zmz r (by omega) (by omega)) ?_)
   refine sF ?_
   refine zab (by simpa using c0) ?_;conv=>whnf
   repeat (refine hcut.go ?_;conv=>whnf)
   refine ⟨{ x:List Span × List Span // r.spans=x.1++x.2 },fun | ⟨(A,B),_⟩=>hs 46 [(1,.ptr 1 0),(2,.ptr 2 0),(3,.ptr 3 0),(19,spans r.spans),(20,i64 r.spans.length),(21,i64 A.length)] [(1,.live (.cells 37 (rcvC r (spans r.spans) (pieces r.pieces) (rints r.turn) (arrs r.log)))),(2,.live (.cells 61 [i64 0,i64 0,i64 0,i64 0,i64 0,hbool false,hbool false,hnil,hnil,i64 0,hnil])),(3,.live (.cells 61 [i64 2,i64 (tag r.cum),i64 0,i64 0,i64 0,hbool false,hbool false,hnil,.own 900,i64 (0),hnil])),(900,rowS ((A.take 6).map (shift r.cum)))],fun x=>x.1.2.length,⟨([],r.spans),rfl⟩,?_,?_⟩
   . exact (hle_Q [(1,some 1),(2,some 2),(3,some 3),(900,none)])
   exact yy17
end Rcv
namespace Rcv
open Srt Jn Ser
def Small (r:Receiver):Prop:=∀ p ∈ r.pieces,p.chunk.spans.length < 2 ^ 38 /\ p.chunk.skips.length < 2 ^ 38
theorem Small.sub {r r':Receiver} (h:Small r) (k:∀ p ∈ r'.pieces,p ∈ r.pieces):Small r':=fun p hp=>h p (k p hp)
theorem zww (r:Receiver) (s m:Int) (o:Bool):∀ p ∈ (dropR r s m o).pieces,p ∈ r.pieces:=fun _ hp=>(List.mem_filter.1 hp).1
theorem ydo (r:Receiver) (s m:Int) (o:Bool):∀ p ∈ (dlv r s m o).1.pieces,p ∈ r.pieces:=by
 unfold dlv
 split
 . exact fun p hp=>hp
 . exact zww r s m o
theorem zrf:∀ (n:Nat) (r:Receiver) (k:Nat),r.pieces.length < n -> ∀ p ∈ (turns r k).pieces,p ∈ r.pieces
 | 0,r,k,h=>by omega
 | n+1,r,k,h=>by
  rw [zjt]
  have h1:=ydo r k (tag (r.turn[k]?.getD 0)) true
  split
  . rename_i hd
    have h2:=zhx hd
    intro p hp
    exact h1 p (zrf n (bump (dlv r k (tag (r.turn[k]?.getD 0)) true).1 k) k (by show (dlv r k (tag (r.turn[k]?.getD 0)) true).1.pieces.length < n;omega) p hp)
  . exact h1
theorem yrp (r:Receiver) (k:Nat):∀ p ∈ (pass r k).pieces,p ∈ r.pieces:=by
 have h1:=ydo r k (tag (r.turn[k]?.getD 0)) true
 unfold pass
 split
 . exact h1
 . exact fun p hp=>h1 p (zww _ _ _ _ p hp)
theorem ztu:∀ (n:Nat) (r:Receiver) (k:Nat),∀ p ∈ (passes n r k).pieces,p ∈ r.pieces
 | 0,_,_=>fun _ hp=>hp
 | n+1,r,k=>fun p hp=>yrp r k p (ztu n _ k p hp)
theorem yrq (r:Receiver) (s:Skip):∀ p ∈ (skip1 r s).pieces,p ∈ r.pieces:=by
 unfold skip1
 split
 . exact fun p hp=>hp
 split
 . exact zww _ _ _ _
 . exact fun p hp=>ztu _ _ _ p (zrf _ _ _ (Nat.lt_succ_self _) p hp)
theorem ygw:∀ (l:List Skip) (r:Receiver),∀ p ∈ (l.foldl skip1 r).pieces,p ∈ r.pieces
 | [],_=>fun _ hp=>hp
 | s :: l,r=>fun p hp=>yrq r s p (ygw l _ p hp)
theorem ydp (r:Receiver) (c:Chunk):∀ p ∈ (forward r c).pieces,p ∈ r.pieces:=by
 unfold forward
 split
 . exact fun p hp=>hp
 . exact fun p hp=>ygw c.skips (at_up r (near r.cum c.tag)) p hp
theorem yrr (r:Receiver) (c:Chunk):∀ p ∈ (data r c).pieces,p ∈ r.pieces \/ p.chunk=c:=by
 have hput:∀ p ∈ (put r c).pieces,p ∈ r.pieces \/ p.chunk=c:=fun p hp=>by
  rcases List.mem_append.1 (show p ∈ r.pieces++[_] from hp) with h | h
  . exact .inl h
  . rw [List.mem_singleton] at h;subst h;exact .inr rfl
 unfold data
 split
 . split
   . exact fun p hp=>hput p (zrf _ _ _ (Nat.lt_succ_self _) p hp)
   . exact fun p hp=>hput p (ydo _ _ _ _ p hp)
 . exact fun p hp=>.inl hp
theorem Small.data {r:Receiver} (h:Small r) {c:Chunk} (h1:c.spans.length < 2 ^ 38) (h2:c.skips.length < 2 ^ 38):Small (Rcv.data r c):=fun p hp=>by
 rcases yrr r c p hp with k | k
 . exact h p k
 . rw [k];exact ⟨h1,h2⟩
theorem Small.forward {r:Receiver} (h:Small r) (c:Chunk):Small (Rcv.forward r c):=h.sub (ydp r c)
abbrev rcvL (r:Receiver):HSlot:=.live (.cells 37 (rcvC r (spans r.spans) (pieces r.pieces) (rints r.turn) (arrs r.log)))
theorem znc (r:Receiver) (h1:r.spans.length < 2 ^ 40) (h2:r.pieces.length < 2 ^ 40) (h3:r.turn.length < 2 ^ 40) (h4:r.log.length < 2 ^ 40) (hsm:Small r):FunOK Tryz.prog 109 [r.hv,r.hv] zad (hbool true) zad:=by
 refine zai mixed Tryz.func109 (by decide) ?_
 conv=>whnf
 repeat' (first | (refine zaa ?_ ?_;(· kernel_rfl);conv=>whnf) | (refine zab ?_ ?_;(· simp;done);conv=>whnf) | (refine zar ?_;(conv=>whnf);refine ⟨_,zjz r.spans h1,rfl,?_⟩;conv=>whnf))
 repeat (refine hcut.go ?_;conv=>whnf)
 refine ⟨{ x:List Piece × List Piece // r.pieces=x.1++x.2 },fun | ⟨(a,b),_⟩=>hs 156 [(2,.ptr 2 0),(3,.ptr 3 0),(59,i64 r.pieces.length),(60,i64 a.length)] [(2,rcvL r),(3,rcvL r)],fun x=>x.1.2.length,⟨([],r.pieces),rfl⟩,?_,?_⟩
 . exact (hle_Q [(2,some 2),(3,some 3)])
 rintro ⟨⟨a,b⟩,h⟩
 dsimp only at h
 refine zbh fun Q hQ=>?_
 cases b with
 | cons p b =>
  have hz:=zat h
  obtain ⟨s1,s2⟩:=hsm p (zef h)
  conv=>whnf
  refine sT ?_
  refine zah h rfl ?_;conv=>whnf
  refine zah h rfl ?_;conv=>whnf
  refine zab (by simp) ?_;conv=>whnf
  refine zah h rfl ?_;conv=>whnf
  refine zah h rfl ?_;conv=>whnf
  (refine cL ?_;refine dL (yab p.chunk (by omega) (by omega)) ?_)
  refine sD ?_
  repeat (refine hcut.go ?_;conv=>whnf)
  exact yy40
 | nil =>
 have hz:=zaz h
 conv=>whnf
 refine sN ?_
 refine hQ _ _ ?_;conv=>whnf
 refine ⟨{ x:List Int × List Int // r.turn=x.1++x.2 },fun | ⟨(a,b),_⟩=>hs 156 [(2,.ptr 2 0),(3,.ptr 3 0),(95,i64 r.turn.length),(96,i64 a.length)] [(2,rcvL r),(3,rcvL r)],fun x=>x.1.2.length,⟨([],r.turn),rfl⟩,?_,?_⟩
 . exact (hle_Q [(2,some 2),(3,some 3)])
 rintro ⟨⟨a,b⟩,h⟩
 dsimp only at h
 refine zbh fun Q hQ=>?_
 cases b with
 | cons p b =>
  have hz:=zat h
  conv=>whnf
  refine sT ?_
  refine zah h rfl ?_;conv=>whnf
  refine zah h rfl ?_;conv=>whnf
  refine sD ?_
  refine zab (by simp) ?_;conv=>whnf
  repeat (refine hcut.go ?_;conv=>whnf)
  exact yy40
 | nil =>
 have hz:=zaz h
 conv=>whnf
 refine sN ?_
 refine hQ _ _ ?_;conv=>whnf
 refine ⟨{ x:List Arrival × List Arrival // r.log=x.1++x.2 },fun | ⟨(a,b),_⟩=>hs 156 [(2,.ptr 2 0),(3,.ptr 3 0),(113,i64 r.log.length),(114,i64 a.length)] [(2,rcvL r),(3,rcvL r)],fun x=>x.1.2.length,⟨([],r.log),rfl⟩,?_,?_⟩
 . exact (hle_Q [(2,some 2),(3,some 3)])
 rintro ⟨⟨a,b⟩,h⟩
 dsimp only at h
 refine zbh fun Q hQ=>?_
 cases b with
 | cons p b =>
  have hz:=zat h
  conv=>whnf
  refine sT ?_
  refine zah h rfl ?_;conv=>whnf
  refine zah h rfl ?_;conv=>whnf
  refine sD ?_
  repeat' (first | (refine zab ?_ ?_;(· simp;done);conv=>whnf) | (refine zfh rfl ?_;conv=>whnf))
  repeat (refine hcut.go ?_;conv=>whnf)
  exact yy40
 | nil =>
 have hz:=zaz h
 conv=>whnf
 refine sN ?_
 refine hQ _ _ ?_;conv=>whnf
theorem yjl (c:Config) (h1:-9223372036854775808 < c.first) (h2:c.first <= 9223372036854775807) (h3:c.streams <= 1099511627776):FunOK Tryz.prog 106 [c.hv] zad (newR c).hv zad:=by
 refine zbt Tryz.func106 (zqx c h1 h2 h3) ?_
 conv=>whnf
 rfl
def wt (c:Chunk):Nat:=c.data.length+c.skips.length+1
def wts (l:List Chunk):Nat:=(l.map wt).sum
theorem zwx (a b:List Chunk):wts (a++b)=wts a+wts b:=by simp [wts]
theorem zhz (c:Chunk) (b:List Chunk):wts (c :: b)=wt c+wts b:=by simp [wts]
theorem yok (c:Config):Small (newR c):=fun p hp=>by simp [newR] at hp
end Rcv
namespace Rcv
open Srt Jn Ser
theorem RFit.cumB {N:Nat} {r:Receiver} (h:RFit N r) (hN:N <= 2000000):-(2 ^ 60) <= r.cum /\ r.cum <= 2 ^ 60:=by
 have:=h.cum1;have:=h.cum2;omega
theorem RFit.spansB {N:Nat} {r:Receiver} (h:RFit N r) (hN:N <= 2000000):∀ s ∈ r.spans,-(2 ^ 61) <= s.lo /\ s.lo <= 2 ^ 61 /\ -(2 ^ 61) <= s.hi /\ s.hi <= 2 ^ 61:=fun s hs=>by
 have h1:=h.above s hs
 have h2:=h.his s hs
 have h3:=h.cum1
 have h4:=h.cum2
 have h5:=(zfa h.rise s hs).1
 omega
end Rcv
namespace Rcv
open Srt Jn Ser
theorem yjm (r:Receiver) (c:Chunk) (hf:DFit r c):FunOK Tryz.prog 152 [r.hv,c.hv] zad (data r c).hv zad:=by
 refine zbt Tryz.func152 (yog r c hf) ?_
 generalize data r c=d
 conv=>whnf
 rfl
theorem zwy (r:Receiver) (c:Chunk) {N:Nat} (h:RFit N r) (hN:N <= 2000000) (hc:c.skips.length <= 2 ^ 20):FunOK Tryz.prog 153 [r.hv,c.hv] zad (forward r c).hv zad:=by
 refine zbt Tryz.func153 (yas r c h hN hc) ?_
 generalize forward r c=d
 conv=>whnf
 rfl
theorem yjn (r:Receiver) (h1:r.spans.length < 2 ^ 40) (h2:r.pieces.length < 2 ^ 40) (h3:tot r.pieces < 2 ^ 60) (hc:-(2 ^ 60) <= r.cum) (hc2:r.cum <= 2 ^ 60) (hsp:∀ s ∈ r.spans,-(2 ^ 61) <= s.lo /\ s.lo <= 2 ^ 61 /\ -(2 ^ 61) <= s.hi /\ s.hi <= 2 ^ 61) :
 FunOK Tryz.prog 154 [r.hv] zad (tells r).hv zad:=by
 refine zbt Tryz.func154 (yoh r h1 h2 h3 hc hc2 hsp) ?_
 conv=>whnf
 rfl
theorem zqr (r:Receiver) (hr:Fit r):FunOK Tryz.prog 111 [r.hv] zad r.hv zad:=by
 refine zbt Tryz.func111 (zci r hr) ?_
 conv=>whnf
 rfl
def cfg8:Config:=⟨2,4,60,1,1,5,7⟩
def a8:Chunk:=⟨1,8,0,1,0,true,true,[98],[],0,[]⟩
def a7:Chunk:=⟨1,7,0,0,0,true,true,[97],[],0,[]⟩
def r1:Receiver:=⟨cfg8,6,[⟨8,8⟩],[⟨8,a8⟩],[0,0],[]⟩
def r2:Receiver:=⟨cfg8,8,[],[],[2,0],[⟨0,0,true,[97]⟩,⟨0,1,true,[98]⟩]⟩
end Rcv
namespace Ln
open Ser
def put1 (w:List Packet) (p:Packet):List Packet:=if w.length < 40 then w++[p] else w
def putW (w ps:List Packet):List Packet:=ps.foldl put1 w
def hear1 (back:Bool) (x:Line × Bool) (c:Chunk):Line × Bool :=
 if back then ({ x.1 with sender:=Snd.hear x.1.sender c },x.2) else
 if c.kind=1 then ({ x.1 with receiver:=Rcv.data x.1.receiver c },true) else
 if c.kind=3 then ({ x.1 with receiver:=Rcv.forward x.1.receiver c },true) else x
def told (path:Int) (l:Line):Line:=if (Pck.pbytes [Rcv.tells l.receiver] 120).2=0 then { l with way:=putW l.way [⟨path,true,(Pck.pbytes [Rcv.tells l.receiver] 120).1⟩] } else l
def zgp (l:Line) (p:Packet):Line × Bool:=(Pck.pparse p.bytes).1.foldl (hear1 p.back) (l,false)
def come (l:Line) (p:Packet):Line :=
 if (Pck.pparse p.bytes).2 ≠ 0 then l else if (zgp l p).2 then told p.path (zgp l p).1 else (zgp l p).1
def emit (l:Line):Line:={ l with sender:=(Snd.pump l.sender).1,way:=putW l.way (Snd.pump l.sender).2 }
def doS (l:Line) (x:Step):Line × Answer :=
 if x.kind=1 then (if Snd.zdl l.sender x.message=0 then (emit { l with sender:=Snd.sendS l.sender x.message },⟨0,l.sender.fates.length⟩) else (l,⟨Snd.zdl l.sender x.message,0⟩)) else
 if x.kind=2 \/ x.kind=3 \/ x.kind=4 then (if x.n < 0 then (l,⟨6,0⟩) else match l.way[x.n.toNat]? with
  | none=>(l,⟨6,0⟩)
  | some p=>if x.kind=4 then (emit { l with way:=putW l.way [p] },⟨0,0⟩) else
   (emit (if x.kind=2 then come { l with way:=l.way.eraseIdx x.n.toNat } p else { l with way:=l.way.eraseIdx x.n.toNat }),⟨0,0⟩)) else
 if x.kind=5 then (emit { l with sender:=Snd.tick l.sender },⟨0,0⟩) else (l,⟨1,0⟩)
def newL (c:Config):Line:=⟨Snd.newS c,Rcv.newR c,[]⟩
def play:Line -> List Step -> Line × List Answer
 | l,[]=>(l,[])
 | l,x :: r=>((play (doS l x).1 r).1,(doS l x).2 :: (play (doS l x).1 r).2)
theorem ygx:∀ (a:List Step) (l:Line) (b:List Step),play l (a++b)=((play (play l a).1 b).1,(play l a).2++(play (play l a).1 b).2)
 | [],l,b=>rfl
 | x :: a,l,b=>by
  have h:=ygx a (doS l x).1 b
  rw [List.cons_append,play,h];rfl
theorem ygy:∀ (a:List Step) (l:Line),(play l a).2.length=a.length
 | [],_=>rfl
 | x :: a,l=>by rw [play,List.length_cons,ygy a];rfl
theorem ydq:∀ (ps w:List Packet),w.length <= 40 -> (putW w ps).length <= 40
 | [],w,h=>h
 | p :: ps,w,h=>by
  unfold putW
  rw [List.foldl_cons]
  refine ydq ps _ ?_
  unfold put1
  split
  . simp;omega
  . exact h
theorem yol:∀ (ps w:List Packet),∀ p ∈ putW w ps,p ∈ w \/ p ∈ ps
 | [],w,p,h=>.inl h
 | q :: ps,w,p,h=>by
  unfold putW at h
  rw [List.foldl_cons] at h
  rcases yol ps _ p h with h | h
  . unfold put1 at h
    split at h
    . rcases List.mem_append.1 h with h | h
      . exact .inl h
      . rw [List.mem_singleton] at h;subst h;exact .inr (by simp)
    . exact .inl h
  . exact .inr (by simp [h])
theorem ztv (l:List Chunk) (most:Int) (h:0 <= most):((Pck.pbytes l most).1.length:Int) <= most:=by
 unfold Pck.pbytes
 (repeat' split) <;> first | (simp;omega) | (dsimp only;omega)
theorem yul (kind:Int) (b:List UInt8):(Chk.zcb kind b).1.data.length+(Chk.zcb kind b).1.skips.length <= b.length /\ (Chk.zcb kind b).1.spans.length <= b.length:=by
 have h1:=Chk.zis (b.drop 2)
 have h2:=Chk.zht (b.drop 4)
 have h3:(b.drop 2).length <= b.length:=by simp
 have h4:(b.drop 4).length <= b.length:=by simp
 unfold Chk.zcb
 (repeat' split) <;> constructor <;> first | (simp [Chk.no];done) | (dsimp only [Chk.no];simp;omega) | (dsimp only [Chk.no];omega)
theorem yrs {b:List UInt8} (h:(Chk.parse b).2.2=0):Rcv.wt (Chk.parse b).1+1 <= (Chk.parse b).2.1.toNat /\ (Chk.parse b).2.1.toNat <= b.length /\ (Chk.parse b).1.spans.length <= b.length:=by
 have h1:=yul (b[0]?.getD 0).toNat ((b.drop 2).take (b[1]?.getD 0).toNat)
 have h2:((b.drop 2).take (b[1]?.getD 0).toNat).length <= (b[1]?.getD 0).toNat:=by simp;omega
 have h3:((b.drop 2).take (b[1]?.getD 0).toNat).length <= b.length:=by simp;omega
 unfold Chk.parse at h ⊢
 (repeat' split at h) <;> first | contradiction | skip
 . rename_i c1 c2 c3 c4
   rw [if_neg c1,if_neg c2,if_neg c3,if_neg c4]
   unfold Rcv.wt
   dsimp only
   refine ⟨by omega,by omega,by omega⟩
theorem yaw:∀ (f:Nat) (b:List UInt8),Rcv.wts (Pck.zdr f b).1 <= b.length /\ ∀ c ∈ (Pck.zdr f b).1,c.spans.length <= b.length /\ Rcv.wt c <= b.length
 | 0,b=>by simp [Pck.zdr,Rcv.wts]
 | f+1,b=>by
  have ih:=yaw f (b.drop (Chk.parse b).2.1.toNat)
  unfold Pck.zdr
  (repeat' split) <;> first | (simp [Rcv.wts];done) | skip
  rename_i c1 c2 c3
  have hp:=yrs (Decidable.not_not.1 c2)
  rw [List.length_drop] at ih
  refine ⟨?_,fun c hc=>?_⟩
  . dsimp only
    rw [Rcv.zhz];omega
  . rcases List.mem_cons.1 hc with rfl | hc
    . exact ⟨hp.2.2,by omega⟩
    . have:=ih.2 c hc;omega
theorem zlx (b:List UInt8):Rcv.wts (Pck.pparse b).1 <= b.length /\ ∀ c ∈ (Pck.pparse b).1,c.spans.length <= b.length /\ Rcv.wt c <= b.length:=by
 unfold Pck.pparse
 split
 . simp [Rcv.wts]
 . exact yaw _ _
theorem yom {most path:Int} {l:List Chunk} (h0:0 <= most):∀ p ∈ Snd.pack1 most path l,(p.bytes.length:Int) <= most /\ p.back=false:=by
 intro p hp
 unfold Snd.pack1 at hp
 split at hp
 . rw [List.mem_singleton] at hp;subst hp;exact ⟨ztv _ _ h0,rfl⟩
 . simp at hp
theorem yax {most path:Int} (h0:0 <= most):∀ (n:Nat) (l:List Chunk),∀ p ∈ Snd.packN most path n l,(p.bytes.length:Int) <= most /\ p.back=false
 | 0,l,p,hp=>by simp [Snd.packN] at hp
 | n+1,l,p,hp=>by
  unfold Snd.packN at hp
  split at hp
  . simp at hp
  . rcases List.mem_append.1 hp with hp | hp
    . exact yom h0 p hp
    . exact yax h0 n _ p hp
theorem znw {most:Int} (h0:0 <= most):∀ (ls:List (List Chunk)) (k:Nat),∀ p ∈ Snd.zbb most k ls,(p.bytes.length:Int) <= most /\ p.back=false
 | [],k,p,hp=>by simp [Snd.zbb] at hp
 | l :: ls,k,p,hp=>by
  unfold Snd.zbb at hp
  rcases List.mem_append.1 hp with hp | hp
  . exact yax h0 _ _ p hp
  . exact znw h0 ls _ p hp
structure LI (N M:Nat) (l:Line):Prop where
 snd:Snd.SI N l.sender
 rcv:Rcv.RFit M l.receiver
 small:M <= 2000000
 way:l.way.length <= 40
 bytes:∀ p ∈ l.way,p.bytes.length <= 120
section
variable {N M:Nat} {l:Line}
theorem LI.more (h:LI N M l) {M':Nat} (h1:M <= M') (h2:M' <= 2000000):LI N M' l:=⟨h.snd,h.rcv.more h1,h2,h.way,h.bytes⟩
theorem zwz {back:Bool} {x:Line × Bool} {c:Chunk} (h:LI N M x.1) (hM:M+Rcv.wt c <= 2000000):LI N (M+Rcv.wt c) (hear1 back x c).1:=by
 have hw:Rcv.wt c=c.data.length+c.skips.length+1:=rfl
 unfold hear1
 split
 . exact ⟨Snd.yug h.snd c,h.rcv.more (by omega),hM,h.way,h.bytes⟩
 split
 . exact ⟨h.snd,(Rcv.yro h.rcv (by omega) c).more (by omega),hM,h.way,h.bytes⟩
 split
 . exact ⟨h.snd,(Rcv.ydl h.rcv (by omega) c (by omega)).more (by omega),hM,h.way,h.bytes⟩
 . exact h.more (by omega) hM
theorem ygz {back:Bool}:∀ (cs:List Chunk) {M:Nat} {x:Line × Bool},LI N M x.1 -> M+Rcv.wts cs <= 2000000 -> LI N (M+Rcv.wts cs) (cs.foldl (hear1 back) x).1
 | [],M,x,h,_=>h
 | c :: cs,M,x,h,hM=>by
  rw [Rcv.zhz] at hM ⊢
  have:=ygz (back:=back) cs (zwz (back:=back) (c:=c) h (by omega)) (by omega)
  rw [<- Nat.add_assoc];exact this
theorem yay (h:LI N M l) {ps:List Packet} (hp:∀ p ∈ ps,p.bytes.length <= 120):LI N M { l with way:=putW l.way ps } :=
 ⟨h.snd,h.rcv,h.small,ydq ps _ h.way,fun p hq=>by rcases yol ps _ p hq with hq | hq;exact h.bytes p hq;exact hp p hq⟩
theorem yum (h:LI N M l) (path:Int):LI N M (told path l):=by
 unfold told
 split
 . refine yay h fun p hp=>?_
   rw [List.mem_singleton] at hp;subst hp
   have:=ztv [Rcv.tells l.receiver] 120 (by decide)
   dsimp only;omega
 . exact h
theorem zxa (h:LI N M l) {p:Packet} (hp:p.bytes.length <= 120) (hM:M+120 <= 2000000):LI N (M+120) (come l p):=by
 have hw:=(zlx p.bytes).1
 have h2:LI N (M+120) (zgp l p).1:=(ygz (back:=p.back) (Pck.pparse p.bytes).1 (x:=(l,false)) h (by omega)).more (by omega) hM
 unfold come
 split
 . exact h.more (by omega) hM
 split
 . exact yum h2 _
 . exact h2
theorem zxb (h:LI N M l):LI N M (emit l):=by
 have hw:=Snd.zca h.snd.cfg
 have hc:=Snd.yrg h.snd
 have h2:LI N M { l with sender:=(Snd.pump l.sender).1 }:=⟨Snd.yue h.snd,h.rcv,h.small,h.way,h.bytes⟩
 refine yay h2 fun p hp=>?_
 have:=(znw (by omega) _ _ p hp).1
 omega
theorem zkb (h:LI N M l) (x:Step) (hN:N+1 <= 2 ^ 20) (hM:M+120 <= 2000000):LI (N+1) (M+120) (doS l x).1:=by
 have h0:LI (N+1) (M+120) l:=⟨h.snd.mono (by omega) hN,h.rcv.more (by omega),hM,h.way,h.bytes⟩
 unfold doS
 split
 . split
   . rename_i e
     exact zxb (l:={ l with sender:=Snd.sendS l.sender x.message }) ⟨Snd.zwd h.snd e hN,h0.rcv,hM,h.way,h.bytes⟩
   . exact h0
 split
 . split
   . exact h0
   split
   . exact h0
   rename_i p hp
   have hb:=h.bytes p (List.mem_of_getElem? hp)
   have he:∀ {N M:Nat},LI N M l -> LI N M { l with way:=l.way.eraseIdx x.n.toNat }:=fun h =>
    ⟨h.snd,h.rcv,h.small,by show (l.way.eraseIdx _).length <= 40;have:=h.way;rw [List.length_eraseIdx];split <;> omega,fun q hq=>h.bytes q (List.mem_of_mem_eraseIdx hq)⟩
   split
   . refine zxb (yay h0 fun q hq=>?_)
     rw [List.mem_singleton] at hq;subst hq;exact hb
   . refine zxb ?_
     split
     . exact zxa (he ⟨h.snd.mono (by omega) hN,h.rcv,h.small,h.way,h.bytes⟩) hb hM
     . exact he h0
 split
 . exact zxb (l:={ l with sender:=Snd.tick l.sender }) ⟨Snd.zwf h0.snd,h0.rcv,hM,h.way,h.bytes⟩
 . exact h0
theorem yha:∀ (a:List Step) {N M:Nat} {l:Line},LI N M l -> N+a.length <= 2 ^ 20 -> M+120 * a.length <= 2000000 -> LI (N+a.length) (M+120 * a.length) (play l a).1
 | [],N,M,l,h,_,_=>h
 | x :: a,N,M,l,h,h1,h2=>by
  simp only [List.length_cons] at h1 h2 ⊢
  have:=yha a (zkb h x (by omega) (by omega)) (by omega) (by omega)
  rw [show N+(a.length+1)=N+1+a.length by omega,show M+120 * (a.length+1)=M+120+120 * a.length by omega];exact this
end
theorem zxc {c:Config} (h:Snd.wrgS c=0):LI 0 0 (newL c):=by
 have hw:=Snd.zca h
 have hl:(Rcv.newR c).turn.length <= 4:=by simp [Rcv.newR];omega
 have ht:∀ t ∈ (Rcv.newR c).turn,t=0:=fun t ht=>(List.mem_replicate.1 ht).2
 exact ⟨Snd.yvh h,⟨Nat.le_refl _,Nat.le_refl _,Nat.le_refl _,trivial,by simp [newL,Rcv.newR],by simp [newL,Rcv.newR],by show -1 <= c.first - 1;omega,by show c.first - 1 <= _;omega,fun t htt=>by rw [ht t htt];decide,fun t htt=>by rw [ht t htt];simp [newL,Rcv.newR],by show (Rcv.newR c).turn.length < _;omega⟩,by decide,by simp [newL],by simp [newL]⟩
end Ln
namespace Ln
open Ser
abbrev rowPk (l:List Packet):HSlot:=.live (.row 110 3 (l.map Packet.row))
abbrev pks (l:List Packet):HV:=.p (.sl 3 (l.map Packet.row))
def lnC (s:Sender) (r:Receiver) (w:HV):List HV:=[i64 s.config.streams,i64 s.config.part,i64 s.config.packet,i64 s.config.paths,i64 s.config.turns,i64 s.config.waiting,i64 s.config.first,i64 s.clock,Sch.qs s.queue,i64 s.sched.last,i64 s.sched.hand,ints s.sched.had,Sco.sents s.out,Snd.pths s.paths,i64 s.cum,i64 s.next,i64 s.room,ints s.mids,ints s.fates,hbool s.forward,i64 s.recover,
 i64 r.config.streams,i64 r.config.part,i64 r.config.packet,i64 r.config.paths,i64 r.config.turns,i64 r.config.waiting,i64 r.config.first,i64 r.cum,.p (.sl 2 (r.spans.map Span.row)),.p (.sl 12 (r.pieces.map Piece.row)),ints r.turn,.p (.sl 4 (r.log.map Arrival.row)),w]
abbrev lnB (s:Sender) (r:Receiver) (w:HV):HSlot:=.live (.cells 40 (lnC s r w))
theorem yhb (ps:List Packet) (h1:ps.length < 2 ^ 22) (h2:∀ p ∈ ps,p.bytes.length < 2 ^ 38):FunOK Tryz.prog 112 [pks ps] zad (.own 0) (lk .free [(0,rowPk ps)]):=by
 refine zal mixed Tryz.func112 (by decide) [] (fun _=>.inl rfl) ?_
 conv=>whnf
 refine ⟨{ x:List Packet × List Packet // ps=x.1++x.2 },fun | ⟨(A,B),_⟩=>hs 22 [(3,.own 900),(6,pks ps),(7,i64 ps.length),(8,i64 A.length)] [(900,rowPk A)],fun x=>x.1.2.length,⟨([],ps),rfl⟩,?_,?_⟩
 . exact (hle_Q [(900,none)])
 rintro ⟨⟨A,B⟩,h⟩
 dsimp only at h
 conv=>whnf
 cases B with
 | cons p B =>
  have hz:=zat h
  have hp:=h2 p (zef h)
  refine sT ?_
  refine zah h rfl ?_;conv=>whnf
  (refine zao [(0,14)]  ?_;(conv=>whnf);refine dO (Cl.zcf p.bytes (by omega)) ?_)
  refine zaa (c:=((A.map Packet.row).length+1) * 40 <= 140737488355328) (by simp;omega) ?_;conv=>whnf
  refine sF ?_
  exact ⟨⟨(A++[p],B),zag h⟩,(hle_X [(900,some 19)] (by repeat' (first | exact z0 | refine z1 ?_ | refine ⟨?_,?_⟩ | ((exact zau (f:=Packet.row) rfl rfl)) | exact z2))),by simp⟩
 | nil =>
  have hz:=zaz h
  rw [List.append_nil] at h
  refine sN ?_
  exact zak [(0,some 900)] rfl rfl trivial rfl rfl ⟨⟨rfl,.inl ⟨900,rfl,by exact zan (by rw [h])⟩⟩,trivial⟩
theorem yaz (l:Line) (h1:Snd.Fit l.sender) (h2:Rcv.Fit l.receiver) (h3:l.way.length < 2 ^ 22) (h4:∀ p ∈ l.way,p.bytes.length < 2 ^ 38):FunOK Tryz.prog 55 [l.hv] zad (.agg (lnC l.sender l.receiver (.own 0))) (lk .free [(0,rowPk l.way)]):=by
 refine zal mixed Tryz.func55 (by decide) [] (fun _=>.inl rfl) ?_
 conv=>whnf
 (refine cP ?_;refine dL (Snd.zqr l.sender h1) ?_)
 (refine cP ?_;refine dL (Rcv.zqr l.receiver h2) ?_)
 (refine zao [(0,20)]  ?_;(conv=>whnf);refine dO (yhb l.way h3 h4) ?_)
 refine sD ?_
 exact yy31
theorem yhc (w A:List Packet) (p:Packet):putW w (A++[p])=put1 (putW w A) p:=by simp [putW]
theorem zia (s:Sender) (r:Receiver) (w ps:List Packet) (h1:ps.length < 2 ^ 62):FunOK Tryz.prog 116 [.ptr 1000 0,pks ps] (lk .free [(1000,lnB s r (.own 1001)),(1001,rowPk w)]) (.tup []) (lk .free [(1000,lnB s r (.own 0)),(0,rowPk (putW w ps)),(1001,.dead)]):=by
 refine zal mixed Tryz.func116 (by decide) [1000,1001] zba ?_
 conv=>whnf
 refine ⟨{ x:List Packet × List Packet // ps=x.1++x.2 },fun | ⟨(A,B),_⟩=>hsP [1000,1001] 29 [(0,.ptr 1000 0),(6,pks ps),(7,i64 ps.length),(8,i64 A.length)] [(1000,lnB s r (.own 900)),(900,rowPk (putW w A)),(1001,.dead)],fun x=>x.1.2.length,⟨([],ps),rfl⟩,?_,?_⟩
 . exact (hle_P [(1000,some 1000),(1001,some 1001),(900,some 1001)])
 rintro ⟨⟨A,B⟩,h⟩
 dsimp only at h
 conv=>whnf
 cases B with
 | cons p B =>
  have hz:=zat h
  refine sT ?_
  refine zah h rfl ?_;conv=>whnf
  by_cases c:(putW w A).length < 40
  case pos =>
   refine sT ?_
   refine zaa (c:=(((putW w A).map Packet.row).length+1) * 40 <= 140737488355328) (by simp;omega) ?_;conv=>whnf
   refine sD ?_
   refine sF ?_
   exact ⟨⟨(A++[p],B),zag h⟩,(hle_Y [(1000,some 1000),(1001,some 1001),(900,some 25)] (by repeat' (first | exact z0 | refine z1 ?_ | refine ⟨?_,?_⟩ | ((exact zau (f:=Packet.row) (by rw [yhc,put1,if_pos c]) rfl)) | exact z2))),by simp⟩
  case neg =>
   refine sN ?_
   refine sF ?_
   exact ⟨⟨(A++[p],B),zag h⟩,(hle_Y [(1000,some 1000),(1001,some 1001),(900,some 900)] (by repeat' (first | exact z0 | refine z1 ?_ | refine ⟨?_,?_⟩ | ((exact zan (by rw [yhc,put1,if_neg c]))) | exact z2))),by simp⟩
 | nil =>
  have hz:=zaz h
  rw [List.append_nil] at h
  refine sN ?_
  (exact zby [(1000,some 1000),(1001,some 1001),(0,some 900)] (by repeat' (first | exact z0 | refine z1 ?_ | refine ⟨?_,?_⟩ | ((exact zan (by rw [h]))) | exact z2)))
end Ln
namespace Ln
open Ser
theorem yba (back:Bool) (x:Line × Bool) (c:Chunk):(hear1 back x c).1.way=x.1.way:=by
 unfold hear1;(repeat' split) <;> rfl
theorem ydr:∀ cs:List Chunk,cs.length <= Rcv.wts cs
 | []=>by simp [Rcv.wts]
 | c :: cs=>by
  have:=ydr cs
  rw [Rcv.zhz,List.length_cons];unfold Rcv.wt;omega
theorem zrg (r:Receiver):Pck.Sized [Rcv.tells r]:=⟨by simp,fun c hc=>by
 rw [List.mem_singleton] at hc
 subst hc
 exact ⟨by simp [Rcv.tells];omega,by simp [Rcv.tells]⟩⟩
theorem yjo {N M:Nat} (l:Line) (p:Packet) (h:LI N M l) (hM:M+120 <= 2000000) (hp:p.bytes.length <= 120):FunOK Tryz.prog 118 [.ptr 1000 0,p.hv] (lk .free [(1000,lnB l.sender l.receiver (.own 1001)),(1001,rowPk l.way)]) (.tup [])
 (lk .free [(1000,lnB (come l p).sender (come l p).receiver (.own 0)),(0,rowPk (come l p).way),(1001,.dead)]):=by
 obtain ⟨path,back,bytes⟩:=p
 dsimp only at hp
 generalize hT:come l ⟨path,back,bytes⟩=T
 refine zal mixed Tryz.func118 (by decide) [1000,1001] zba ?_
 conv=>whnf
 have hw:=zlx bytes
 (refine cP ?_;refine dL (Pck.yct bytes (by omega)) ?_)
 rw [come] at hT
 dsimp only at hT
 have hall:zgp l ⟨path,back,bytes⟩=(Pck.pparse bytes).1.foldl (hear1 back) (l,false):=rfl
 generalize Pck.pparse bytes=K at hT hw hall ⊢
 obtain ⟨cs,e⟩:=K
 dsimp only at hT hw hall
 by_cases c1:e=0
 case neg =>
  rw [if_pos c1] at hT
  subst hT
  rw [show (e != 0)=true from bne_iff_ne.2 c1]
  conv=>whnf
  (exact zbn [(1000,some 1000),(1001,some 1001),(0,some 1001)])
 case pos =>
 subst c1
 rw [if_neg (fun h=>h rfl)] at hT
 conv=>whnf
 repeat (refine hcut.go ?_;conv=>whnf)
 refine ⟨{ x:(Line × Bool) × List Chunk × List Chunk // cs=x.2.1++x.2.2 /\ x.2.1.foldl (hear1 back) (l,false)=x.1 /\ LI N (M+Rcv.wts x.2.1) x.1.1 /\ x.1.1.way=l.way },fun | ⟨((y,told),A,B),_⟩=>hsP [1000,1001] 85 [(0,.ptr 1000 0),(3,.ptr 3 0),(6,hbool told),(19,.p (.sl 11 (cs.map Chunk.row))),(20,i64 cs.length),(21,i64 A.length)] [(1000,lnB y.sender y.receiver (.own 1001)),(1001,rowPk l.way),(3,.live (.cells 110 (⟨path,back,bytes⟩:Packet).cells))],fun x=>x.1.2.2.length,⟨((l,false),[],cs),rfl,rfl,h,rfl⟩,?_,?_⟩
 . exact (hle_P [(1000,some 1000),(1001,some 1001),(3,some 3)])
 rintro ⟨⟨⟨y,told⟩,A,B⟩,k1,k2,k3,k4⟩
 dsimp only at k1 k2 k3 k4
 conv=>whnf
 cases B with
 | cons c B =>
  have hz:=zat k1
  obtain ⟨w1,w2⟩:=hw
  have hcl:=ydr cs
  have hc:=w2 c (zef k1)
  have hsum:Rcv.wts cs=Rcv.wts A+(Rcv.wt c+Rcv.wts B):=by rw [k1,Rcv.zwx,Rcv.zhz]
  have hwt:Rcv.wt c=c.data.length+c.skips.length+1:=rfl
  have hnx:(A++[c]).foldl (hear1 back) (l,false)=hear1 back (y,told) c:=by rw [List.foldl_append,k2];rfl
  have hli:=zwz (back:=back) (x:=(y,told)) (c:=c) k3 (by omega)
  have hwy:=(yba back (y,told) c).trans k4
  rw [show M+Rcv.wts A+Rcv.wt c=M+Rcv.wts (A++[c]) by rw [Rcv.zwx,Rcv.zhz];simp [Rcv.wts];omega] at hli
  have hfit:=k3.rcv.fit (by omega)
  refine sT ?_
  refine zah k1 rfl ?_;conv=>whnf
  repeat (refine hcut.go ?_;conv=>whnf)
  cases back with
  | true =>
   conv=>whnf
   (refine cP ?_;refine dL (Snd.ymv y.sender c k3.snd.fit k3.snd.right (by omega)) ?_)
   refine sD ?_
   repeat (refine hcut.go ?_;conv=>whnf)
   refine sF ?_
   exact ⟨⟨(hear1 true (y,told) c,A++[c],B),zag k1,hnx,hli,hwy⟩,(hle_P [(1000,some 1000),(1001,some 1001),(3,some 3)]),by simp⟩
  | false =>
   conv=>whnf
   repeat (refine hcut.go ?_;conv=>whnf)
   by_cases d1:c.kind=1
   case pos =>
    have e1:hear1 false (y,told) c=({ y with receiver:=Rcv.data y.receiver c },true):=by unfold hear1;rw [if_neg (by decide),if_pos d1]
    rw [e1] at hnx hli hwy
    rw [show (c.kind == 1)=true from beq_iff_eq.2 d1]
    conv=>whnf
    (refine cP ?_;refine dL (Rcv.yjm y.receiver c (k3.rcv.dfit (by omega) (by omega))) ?_)
    refine sD ?_
    repeat (refine hcut.go ?_;conv=>whnf)
    refine sF ?_
    exact ⟨⟨(({ y with receiver:=Rcv.data y.receiver c },true),A++[c],B),zag k1,hnx,hli,hwy⟩,(hle_P [(1000,some 1000),(1001,some 1001),(3,some 3)]),by simp⟩
   case neg =>
    rw [show (c.kind == 1)=false from beq_eq_false_iff_ne.2 d1]
    conv=>whnf
    repeat (refine hcut.go ?_;conv=>whnf)
    by_cases d2:c.kind=3
    case pos =>
     have e1:hear1 false (y,told) c=({ y with receiver:=Rcv.forward y.receiver c },true):=by unfold hear1;rw [if_neg (by decide),if_neg d1,if_pos d2]
     rw [e1] at hnx hli hwy
     rw [show (c.kind == 3)=true from beq_iff_eq.2 d2]
     conv=>whnf
     (refine cP ?_;refine dL (Rcv.zwy y.receiver c k3.rcv (by omega) (by omega)) ?_)
     refine sD ?_
     repeat (refine hcut.go ?_;conv=>whnf)
     refine sF ?_
     exact ⟨⟨(({ y with receiver:=Rcv.forward y.receiver c },true),A++[c],B),zag k1,hnx,hli,hwy⟩,(hle_P [(1000,some 1000),(1001,some 1001),(3,some 3)]),by simp⟩
    case neg =>
     have e1:hear1 false (y,told) c=(y,told):=by unfold hear1;rw [if_neg (by decide),if_neg d1,if_neg d2]
     rw [e1] at hnx hli hwy
     rw [show (c.kind == 3)=false from beq_eq_false_iff_ne.2 d2]
     conv=>whnf
     repeat (refine hcut.go ?_;conv=>whnf)
     refine sF ?_
     exact ⟨⟨((y,told),A++[c],B),zag k1,hnx,hli,hwy⟩,(hle_P [(1000,some 1000),(1001,some 1001),(3,some 3)]),by simp⟩
 | nil =>
  have hz:=zaz k1
  rw [List.append_nil] at k1
  rw [<- k1] at k2 k3
  rw [hall,k2] at hT
  dsimp only at hT
  obtain ⟨w1,w2⟩:=hw
  have hfit:=k3.rcv.fit (by omega)
  refine sN ?_
  cases told with
  | false =>
   rw [if_neg (by decide)] at hT
   subst hT
   exact yy113
  | true =>
   rw [if_pos rfl] at hT
   conv=>whnf
   repeat (refine hcut.go ?_;conv=>whnf)
   have hcb:=k3.rcv.cumB (by omega)
   (refine cP ?_;refine dL (Rcv.yjn y.receiver (by have:=hfit.spans;omega) (by have:=hfit.pieces;omega) (by have:=hfit.bytes;omega) hcb.1 hcb.2 (k3.rcv.spansB (by omega))) ?_)
   (refine cP ?_;refine dL (Pck.zeh [Rcv.tells y.receiver] 120 (zrg _)) ?_)
   unfold Ln.told at hT
   generalize Pck.pbytes [Rcv.tells y.receiver] 120=K2 at hT ⊢
   obtain ⟨b,e⟩:=K2
   dsimp only at hT
   by_cases c3:e=0
   case pos =>
    rw [if_pos c3] at hT
    subst hT c3
    conv=>whnf
    (refine zae [false,true] [(1000,1000),(1001,1001)] [(0,940)] ?_;(conv=>whnf);refine dG (zia y.sender y.receiver l.way [⟨path,true,b⟩] (by simp)) ?_)
    (exact zby [(1000,some 1000),(1001,some 1001),(0,some 940)] (by repeat' (first | exact z0 | refine z1 ?_ | refine ⟨?_,?_⟩ | ((exact zan (by rw [k4]))) | exact z2)))
   case neg =>
    rw [if_neg c3] at hT
    subst hT
    rw [show (e == 0)=false from beq_eq_false_iff_ne.2 c3]
    exact yy113
end Ln
namespace Ln
open Ser
theorem yon (l A:List Packet) (p:Packet):putW l (A++[p])=put1 (putW l A) p:=by unfold putW;rw [List.foldl_append];rfl
abbrev rowP (l:List Packet):HSlot:=.live (.row 110 3 (l.map Packet.row))
theorem zrh (l ps:List Packet) (hl:l.length <= 40) (hp:ps.length < 2 ^ 62):FunOK Tryz.prog 107 [pks l,pks ps] zad (pks (putW l ps)) zad:=by
 refine zai mixed Tryz.func107 (by decide) ?_
 conv=>whnf
 refine zaa (c:=(([]:List (List PV)).length+(l.map Packet.row).length) * 40 <= 140737488355328) (by simp;omega) ?_;conv=>whnf
 refine ⟨{ x:List Packet × List Packet // ps=x.1++x.2 },fun | ⟨(A,B),_⟩=>hs 26 [(5,.own 900),(11,pks ps),(12,i64 ps.length),(13,i64 A.length)] [(900,rowP (putW l A))],fun x=>x.1.2.length,⟨([],ps),rfl⟩,?_,?_⟩
 . exact (hle_Q [(900,some 10)])
 rintro ⟨⟨A,B⟩,h⟩
 dsimp only at h
 conv=>whnf
 cases B with
 | cons p B =>
  have hz:=zat h
  have hn:=yon l A p
  have hle:=ydq A l hl
  refine sT ?_
  refine zah h rfl ?_;conv=>whnf
  (try (refine hcut.go ?_;conv=>whnf))
  by_cases c1:(putW l A).length < 40
  case pos =>
   rw [put1,if_pos c1] at hn
   refine zac (by rw [List.length_map,decide_eq_true_eq];omega) ?_;conv=>whnf
   refine zaa (c:=(((putW l A).map Packet.row).length+1) * 40 <= 140737488355328) (by rw [List.length_map];omega) ?_;conv=>whnf
   refine sF ?_
   exact ⟨⟨(A++[p],B),zag h⟩,(hle_X [(900,some 23)] (by repeat' (first | exact z0 | refine z1 ?_ | refine ⟨?_,?_⟩ | ((exact zau (f:=Packet.row) hn rfl)) | exact z2))),by simp⟩
  rw [put1,if_neg c1] at hn
  refine zab (by rw [List.length_map,decide_eq_false_iff_not];omega) ?_;conv=>whnf
  (try (refine hcut.go ?_;conv=>whnf))
  refine sF ?_
  exact ⟨⟨(A++[p],B),zag h⟩,(hle_X [(900,some 900)] (by repeat' (first | exact z0 | refine z1 ?_ | refine ⟨?_,?_⟩ | ((rw [hn])) | exact z2))),by simp⟩
 | nil =>
  have hz:=zaz h
  rw [List.append_nil] at h
  subst h
  ((refine hif_F ?_;conv=>whnf);try (refine hcut.go ?_;conv=>whnf))
theorem zgc (l ps:List Packet) (hl:l.length <= 40) (hp:ps.length < 2 ^ 62) {rows:List (List PV)} (hr:rows=l.map Packet.row):FunOK Tryz.prog 107 [.p (.sl 3 rows),pks ps] zad (pks (putW l ps)) zad:=by
 subst hr;exact zrh l ps hl hp
abbrev yvk:List HV:=[i64 0,i64 0,i64 0,i64 0,i64 0,i64 0,i64 0,i64 0,hnil,i64 0,i64 0,hnil,hnil,hnil,i64 0,i64 0,i64 0,hnil,hnil,hbool false,i64 0,i64 0,i64 0,i64 0,i64 0,i64 0,i64 0,i64 0,i64 0,hnil,hnil,hnil,hnil,hnil]
abbrev lnS (l:Line):HSlot:=lnB l.sender l.receiver (pks l.way)
abbrev rcH (y:Line) (p:Packet):List (Nat × HSlot):=[(2,lnS y),(3,.live (.cells 110 p.cells)),(4,.live (.cells 40 yvk))]
theorem yjp {N M:Nat} (l:Line) (p:Packet) (h:LI N M l) (hM:M+120 <= 2000000) (hp:p.bytes.length <= 120):FunOK Tryz.prog 108 [l.hv,p.hv] zad (come l p).hv zad:=by
 obtain ⟨path,back,bytes⟩:=p
 dsimp only at hp
 generalize hT:come l ⟨path,back,bytes⟩=T
 refine zai mixed Tryz.func108 (by decide) ?_
 have hw:=zlx bytes
 have pp:=Pck.zza bytes (by omega)
 rw [come] at hT
 dsimp only at hT
 have hall:zgp l ⟨path,back,bytes⟩=(Pck.pparse bytes).1.foldl (hear1 back) (l,false):=rfl
 generalize Pck.pparse bytes=K at hT hw hall pp
 obtain ⟨cs,e⟩:=K
 dsimp only at hT hw hall pp
 by_cases c1:e=0
 case neg =>
  rw [if_pos c1] at hT
  subst hT
  conv=>whnf
  (refine cP ?_;refine dL pp ?_)
  refine zac (bne_iff_ne.2 c1) ?_;conv=>whnf
  try rfl
 subst c1
 rw [if_neg (fun h=>h rfl)] at hT
 conv=>whnf
 (refine cP ?_;refine dL pp ?_)
 (try (refine hcut.go ?_;conv=>whnf))
 refine ⟨{ x:(Line × Bool) × List Chunk × List Chunk // cs=x.2.1++x.2.2 /\ x.2.1.foldl (hear1 back) (l,false)=x.1 /\ LI N (M+Rcv.wts x.2.1) x.1.1 /\ x.1.1.way=l.way },fun | ⟨((y,told),A,B),_⟩=>hs 75 [(2,.ptr 2 0),(3,.ptr 3 0),(4,.ptr 4 0),(7,hbool told),(21,.p (.sl 11 (cs.map Chunk.row))),(22,i64 cs.length),(23,i64 A.length)] (rcH y ⟨path,back,bytes⟩),fun x=>x.1.2.2.length,⟨((l,false),[],cs),rfl,rfl,by simpa [Rcv.wts] using h,rfl⟩,?_,?_⟩
 . exact (hle_Q [(2,some 2),(3,some 3),(4,some 4)])
 rintro ⟨⟨⟨y,told⟩,A,B⟩,k1,k2,k3,k4⟩
 dsimp only at k1 k2 k3 k4
 refine zbh fun Q hQ=>?_
 conv=>whnf
 cases B with
 | cons c B =>
  have hz:=zat k1
  obtain ⟨w1,w2⟩:=hw
  have hcl:=ydr cs
  have hc:=w2 c (zef k1)
  have hsum:Rcv.wts cs=Rcv.wts A+(Rcv.wt c+Rcv.wts B):=by rw [k1,Rcv.zwx,Rcv.zhz]
  have hwt:Rcv.wt c=c.data.length+c.skips.length+1:=rfl
  have hnx:(A++[c]).foldl (hear1 back) (l,false)=hear1 back (y,told) c:=by rw [List.foldl_append,k2];rfl
  have hli:=zwz (back:=back) (x:=(y,told)) (c:=c) k3 (by omega)
  have hwy:=(yba back (y,told) c).trans k4
  rw [show M+Rcv.wts A+Rcv.wt c=M+Rcv.wts (A++[c]) by rw [Rcv.zwx,Rcv.zhz];simp [Rcv.wts];omega] at hli
  refine sT ?_
  refine zah k1 rfl ?_;conv=>whnf
  (try (refine hcut.go ?_;conv=>whnf))
  cases back with
  | true =>
   conv=>whnf
   (refine cP ?_;refine dL (Snd.yje y.sender c k3.snd (by omega)) ?_)
   (try (refine hcut.go ?_;conv=>whnf))
   refine sF ?_
   refine hQ _ _ ?_;conv=>whnf
   exact ⟨⟨(hear1 true (y,told) c,A++[c],B),zag k1,hnx,hli,hwy⟩,(hle_Q [(2,some 2),(3,some 3),(4,some 4)]),by simp⟩
  | false =>
   conv=>whnf
   (try (refine hcut.go ?_;conv=>whnf))
   by_cases d1:c.kind=1
   case pos =>
    have e1:hear1 false (y,told) c=({ y with receiver:=Rcv.data y.receiver c },true):=by unfold hear1;rw [if_neg (by decide),if_pos d1]
    rw [e1] at hnx hli hwy
    refine zac (beq_iff_eq.2 d1) ?_;conv=>whnf
    (refine cP ?_;refine dL (Rcv.yjk y.receiver c k3.rcv (by omega) (by omega)) ?_)
    (try (refine hcut.go ?_;conv=>whnf))
    refine sF ?_
    refine hQ _ _ ?_;conv=>whnf
    exact ⟨⟨(({ y with receiver:=Rcv.data y.receiver c },true),A++[c],B),zag k1,hnx,hli,hwy⟩,(hle_Q [(2,some 2),(3,some 3),(4,some 4)]),by simp⟩
   refine zab (beq_eq_false_iff_ne.2 d1) ?_;conv=>whnf
   (try (refine hcut.go ?_;conv=>whnf))
   by_cases d2:c.kind=3
   case pos =>
    have e1:hear1 false (y,told) c=({ y with receiver:=Rcv.forward y.receiver c },true):=by unfold hear1;rw [if_neg (by decide),if_neg d1,if_pos d2]
    rw [e1] at hnx hli hwy
    refine zac (beq_iff_eq.2 d2) ?_;conv=>whnf
    (refine cP ?_;refine dL (Rcv.zwv y.receiver c k3.rcv (by omega) (by omega)) ?_)
    (try (refine hcut.go ?_;conv=>whnf))
    refine sF ?_
    refine hQ _ _ ?_;conv=>whnf
    exact ⟨⟨(({ y with receiver:=Rcv.forward y.receiver c },true),A++[c],B),zag k1,hnx,hli,hwy⟩,(hle_Q [(2,some 2),(3,some 3),(4,some 4)]),by simp⟩
   have e1:hear1 false (y,told) c=(y,told):=by unfold hear1;rw [if_neg (by decide),if_neg d1,if_neg d2]
   rw [e1] at hnx hli hwy
   refine zab (beq_eq_false_iff_ne.2 d2) ?_;conv=>whnf
   (try (refine hcut.go ?_;conv=>whnf))
   refine sF ?_
   refine hQ _ _ ?_;conv=>whnf
   exact ⟨⟨((y,told),A++[c],B),zag k1,hnx,hli,hwy⟩,(hle_Q [(2,some 2),(3,some 3),(4,some 4)]),by simp⟩
 | nil =>
 have hz:=zaz k1
 rw [List.append_nil] at k1
 rw [<- k1] at k2 k3
 rw [hall,k2] at hT
 dsimp only at hT
 obtain ⟨w1,w2⟩:=hw
 have hfit:=k3.rcv.fit (by omega)
 refine sN ?_
 refine hQ _ _ ?_;conv=>whnf
 cases told with
 | false =>
  rw [if_neg (by decide)] at hT
  subst hT
  conv=>whnf
  (try (refine hcut.go ?_;conv=>whnf))
  try rfl
 | true =>
 rw [if_pos rfl] at hT
 conv=>whnf
 (try (refine hcut.go ?_;conv=>whnf))
 have hcb:=k3.rcv.cumB (by omega)
 (refine cP ?_;refine dL (Rcv.ydn y.receiver (by have:=hfit.spans;omega) (by have:=hfit.pieces;omega) (by have:=hfit.bytes;omega) hcb.1 hcb.2 (k3.rcv.spansB (by omega))) ?_)
 (refine cP ?_;refine dL (Pck.zgm [Rcv.tells y.receiver] 120 (zrg _)) ?_)
 unfold Ln.told at hT
 generalize Pck.pbytes [Rcv.tells y.receiver] 120=K2 at hT ⊢
 obtain ⟨b,e⟩:=K2
 dsimp only at hT
 by_cases c3:e=0
 case pos =>
  rw [if_pos c3] at hT
  subst hT c3
  conv=>whnf
  (refine cP ?_;refine dL (zrh y.way [⟨path,true,b⟩] (by rw [k4];exact h.way) (by simp)) ?_)
  try rfl
 case neg =>
  rw [if_neg c3] at hT
  subst hT
  refine zab (beq_eq_false_iff_ne.2 c3) ?_;conv=>whnf
  try rfl
end Ln
namespace Snd
open Ser
theorem ybb {α:Type} {o:List α} {c:α} {k:Nat} {f:α -> α} (h:k < o.length):setAt (o++[c]) k f=setAt o k f++[c]:=by
 unfold setAt
 rw [List.getElem?_append_left h]
 obtain ⟨x,hx⟩:∃ x,o[k]?=some x:=⟨_,List.getElem?_eq_getElem h⟩
 rw [hx]
 dsimp only
 rw [List.set_append_left _ _ h]
def ext (p:Pump):Pump:=⟨p.s,p.out++[[]]⟩
theorem yds (p:Pump) (i path:Nat):(fly p i path).out.length=p.out.length:=by
 unfold fly;split
 . rfl
 . exact zds _ _ _
theorem yhd (p:Pump) (i path:Nat):(fly p i path).s.paths.length=p.s.paths.length:=by
 unfold fly;split
 . rfl
 . exact zds _ _ _
theorem yoo {p:Pump} {i path:Nat} (h:path < p.out.length):fly (ext p) i path=ext (fly p i path):=by
 unfold fly ext
 dsimp only
 split
 . rfl
 . rw [ybb h]
theorem yjq {p:Pump} {i path:Nat} (h:path < p.out.length):zcd path (ext p) i=ext (zcd path p i):=by
 have h2:=yoo (i:=i) h
 unfold zcd
 show (match p.s.out[i]? with | none=>ext p | some x=>if x.state=3 /\ opened p.s path=true then fly (ext p) i path else ext p)=_
 cases p.s.out[i]? with
 | none=>rfl
 | some x =>
  dsimp only
  by_cases c:x.state=3 /\ opened p.s path=true
  . rw [if_pos c,if_pos c];exact h2
  . rw [if_neg c,if_neg c]
theorem yjr (p:Pump) (i path:Nat):(zcd path p i).out.length=p.out.length:=by
 unfold zcd
 split
 . rfl
 . split
   . exact yds _ _ _
   . rfl
theorem znd {path:Nat}:∀ (L:List Nat) {p:Pump},path < p.out.length -> L.foldl (zcd path) (ext p)=ext (L.foldl (zcd path) p) /\ (L.foldl (zcd path) p).out.length=p.out.length
 | [],p,_=>⟨rfl,rfl⟩
 | i :: L,p,h=>by
  have h1:=yjr p i path
  obtain ⟨h2,h3⟩:=znd L (p:=zcd path p i) (by rw [h1];exact h)
  rw [List.foldl_cons,List.foldl_cons,yjq h]
  exact ⟨h2,h3.trans h1⟩
theorem yop {p:Pump} (h:choose p.s < p.out.length):again (ext p)=ext (again p):=(znd _ h).1
theorem yoq {p:Pump} (h:choose p.s < p.out.length):(again p).out.length=p.out.length:=(znd _ h).2
theorem yor {p:Pump} {k:Nat} {m:Queued} {n:Int} (h:choose p.s < p.out.length):next1 (ext p) k m n=ext (next1 p k m n):=by
 unfold next1
 exact yoo (p:=⟨_,p.out⟩) h
theorem yrt {p:Pump} (h:choose p.s < p.out.length):next (ext p)=(next p).map ext:=by
 unfold next
 show (if zcy p.s < 0 \/ opened p.s (choose p.s)=false \/ (p.s.out.length:Int) >= 60 then none else match p.s.queue[(zcy p.s).toNat]? with
  | none=>none
  | some m=>if flight p.s > 0 /\ W (flight p.s+many p.s m) > p.s.room then none else some (next1 (ext p) (zcy p.s).toNat m (many p.s m)))=_
 by_cases c1:zcy p.s < 0 \/ opened p.s (choose p.s)=false \/ (p.s.out.length:Int) >= 60
 . rw [if_pos c1,if_pos c1];rfl
 rw [if_neg c1,if_neg c1]
 cases p.s.queue[(zcy p.s).toNat]? with
 | none=>rfl
 | some m =>
  dsimp only
  by_cases c2:flight p.s > 0 /\ W (flight p.s+many p.s m) > p.s.room
  . rw [if_pos c2,if_pos c2];rfl
  . rw [if_neg c2,if_neg c2,yor h];rfl
theorem ydt {p:Pump} (h:choose p.s < p.out.length):forward (ext p)=ext (forward p):=by
 unfold forward
 show (if p.s.forward=false \/ (Sco.point p.s.out p.s.cum).1=p.s.cum then ext p else _)=_
 by_cases c:p.s.forward=false \/ (Sco.point p.s.out p.s.cum).1=p.s.cum
 . rw [if_pos c,if_pos c]
 . rw [if_neg c,if_neg c];unfold ext;dsimp only;rw [ybb h]
theorem znx (most:Int):∀ (k:Nat) (o:List (List Chunk)),zbb most k (o++[[]])=zbb most k o
 | k,[]=>rfl
 | k,l :: o=>by
  show packN most k l.length l++zbb most (k+1) (o++[[]])=_
  rw [znx most (k+1) o];rfl
def SL (s:Sender):Prop:=0 <= s.sched.last /\ s.sched.last < s.sched.had.length
theorem yos {s:Sender} {id:Int} (h:SL s):SL (giveS s id):=by
 have e:(giveS s id).sched=if s.sched.hand=id then { s.sched with hand:=-1 } else s.sched:=rfl
 unfold SL;rw [e];split <;> exact h
theorem yun {s:Sender} {m:Queued} (h:SL s):SL (expQ s m):=by unfold expQ;split;exact yos h;exact h
theorem yuo {s:Sender} {m:Sent} (h:SL s):SL (expX s m):=by unfold expX;split;exact yos h;exact h
theorem yhe:∀ (q:List Queued) {s:Sender},SL s -> SL (q.foldl expQ s)
 | [],_,h=>h
 | _ :: q,_,h=>yhe q (yun h)
theorem yhf:∀ (q:List Sent) {s:Sender},SL s -> SL (q.foldl expX s)
 | [],_,h=>h
 | _ :: q,_,h=>yhf q (yuo h)
theorem ybc {s:Sender} (h:SL s):SL (expire s):=yhf _ (yhe _ h)
theorem ybd (p:Pump) (i path:Nat):(fly p i path).s.sched=p.s.sched:=by unfold fly;split <;> rfl
theorem zly (p:Pump):(forward p).s.sched=p.s.sched:=by unfold forward;split <;> rfl
theorem zlz {p q:Pump} (h:next p=some q):(p.s.out.length:Int) < 60 /\ ∃ (k:Nat) (m:Queued),p.s.queue[k]?=some m /\ q=next1 p k m (many p.s m):=by
 unfold next at h
 by_cases c1:zcy p.s < 0 \/ opened p.s (choose p.s)=false \/ (p.s.out.length:Int) >= 60
 . rw [if_pos c1] at h;cases h
 rw [if_neg c1] at h
 refine ⟨by omega,(zcy p.s).toNat,?_⟩
 cases hm:p.s.queue[(zcy p.s).toNat]? with
 | none=>rw [hm] at h;cases h
 | some m =>
  rw [hm] at h
  dsimp only at h
  split at h
  . cases h
  . cases h;exact ⟨m,rfl,rfl⟩
theorem yot {N:Nat} {p q:Pump} (hS:SI N p.s) (h:next p=some q):SL q.s:=by
 obtain ⟨-,k,m,hm,rfl⟩:=zlz h
 have hq:=hS.queue m (List.mem_of_getElem? hm)
 have hn:=hS.nhad
 have h0:=hq.st0
 have h1:=hq.st1
 obtain ⟨ps,po⟩:=p
 unfold SL
 rw [zec,ybd]
 show 0 <= m.message.stream /\ m.message.stream < ((Sch.had ps.sched _ _ _).had.length:Int)
 rw [ynb]
 dsimp only at hn h1
 omega
theorem yru {ps:Sender} {a c:List Chunk} {q:Pump} (h:next ⟨ps,[a,c]⟩=some q):(ps.out.length:Int) < 60 /\ q.out.length=2 /\ q.s.paths.length=ps.paths.length /\ q.s.out.length=ps.out.length+1 /\ (nth0 q.out).length <= a.length+1 /\ (nth1 q.out).length <= c.length+1:=by
 obtain ⟨h1,k,m,hm,rfl⟩:=zlz h
 refine ⟨h1,?_,?_,?_,?_⟩
 . rw [zec,yds];rfl
 . rw [zec,yhd];rfl
 . rw [zec];unfold fly;dsimp only;split <;> simp [cutS]
 . rw [zec];unfold fly;dsimp only;split
   . exact ⟨by show a.length <= _;omega,by show c.length <= _;omega⟩
   . rcases hc:choose ps with _ | _ | n
     . constructor
       . show (a++[_]).length <= _;simp
       . show c.length <= _;omega
     . constructor
       . show a.length <= _;omega
       . show (c++[_]).length <= _;simp
     . constructor
       . show a.length <= _;omega
       . show c.length <= _;omega
end Snd
namespace Snd
open Ser
def OK2 (p:Pump):Prop:=∀ l ∈ p.out,∀ c ∈ l,Okc c
theorem yvl {np nf:Nat} {x:Sent} (h:XI np nf x):Okc x.chunk:=by unfold Okc;rw [h.spans,h.skips];simp
theorem you {o:List (List Chunk)} {k:Nat} {x:Chunk} {l:List Chunk} (h:l ∈ setAt o k (·++[x])):l ∈ o \/ ∃ m ∈ o,l=m++[x]:=by
 unfold setAt at h
 split at h
 . exact .inl h
 . rename_i y hy
   rcases List.mem_or_eq_of_mem_set h with h | h
   . exact .inl h
   . exact .inr ⟨y,List.mem_of_getElem? hy,h⟩
theorem yhg {s:Sender} {o:List (List Chunk)} {k:Nat} {x:Chunk} (h:OK2 ⟨s,o⟩) (hx:Okc x):∀ l ∈ setAt o k (·++[x]),∀ c ∈ l,Okc c:=by
 intro l hl c hc
 rcases you hl with h1 | ⟨m,hm,rfl⟩
 . exact h l h1 c hc
 . rcases List.mem_append.1 hc with h2 | h2
   . exact h m hm c h2
   . rw [List.mem_singleton] at h2;subst h2;exact hx
theorem yov {N:Nat} {p:Pump} (hS:SI N p.s) (h:OK2 p) (i path:Nat):OK2 (fly p i path):=by
 unfold fly
 split
 . exact h
 . rename_i x hx
   exact yhg (s:=p.s) h (yvl (hS.out x (List.mem_of_getElem? hx)))
theorem yjs {N:Nat} {p:Pump} (hS:SI N p.s) (h:OK2 p) (path i:Nat):OK2 (zcd path p i):=by
 unfold zcd
 split
 . exact h
 . split
   . exact yov hS h _ _
   . exact h
theorem ztw {N path:Nat}:∀ (L:List Nat) {p:Pump},SI N p.s -> path < p.s.paths.length -> OK2 p -> OK2 (L.foldl (zcd path) p)
 | [],_,_,_,h=>h
 | i :: L,p,hS,hp,h=>by
  obtain ⟨h1,h2⟩:=zlt hS hp i
  exact ztw L h1 (by rw [h2];exact hp) (yjs hS h path i)
theorem yow {N:Nat} {p:Pump} (hS:SI N p.s) (h:OK2 p):OK2 (again p):=ztw _ hS (choose_lt' hS) h
theorem yrv {N:Nat} {p q:Pump} (hS:SI N p.s) (h:OK2 p) (hq:next p=some q):OK2 q:=by
 obtain ⟨-,k,m,hm,rfl⟩:=zlz hq
 obtain ⟨ps,po⟩:=p
 rw [zec]
 exact yov (p:=⟨cutS ps k m,po⟩) (ync hS hm) h _ _
theorem ybe {N:Nat}:∀ (n:Nat) {p:Pump},SI N p.s -> OK2 p -> OK2 (nexts n p)
 | 0,_,_,h=>h
 | n+1,p,hS,h=>by
  rw [nexts]
  cases hq:next p with
  | none=>exact h
  | some q=>exact ybe n (zqu hS hq) (yrv hS h hq)
theorem ydu {p:Pump} (h:OK2 p):OK2 (forward p):=by
 unfold forward
 split
 . exact h
 . exact yhg (s:=p.s) h (yml p.s)
theorem ybf {N:Nat}:∀ (n:Nat) {p:Pump},SI N p.s -> p.out.length=p.s.paths.length -> nexts n (ext p)=ext (nexts n p)
 | 0,_,_,_=>rfl
 | n+1,p,hS,hl=>by
  have hc:choose p.s < p.out.length:=by rw [hl];exact choose_lt' hS
  rw [nexts,nexts,yrt hc]
  cases hq:next p with
  | none=>rfl
  | some q =>
   obtain ⟨-,k,m,hm,he⟩:=zlz hq
   have hql:q.out.length=q.s.paths.length:=by
    rw [he];obtain ⟨ps,po⟩:=p
    rw [zec,yds,yhd];exact hl
   exact ybf n (zqu hS hq) hql
theorem yjt {N:Nat} {p:Pump} (hS:SI N p.s):(again p).s.paths.length=p.s.paths.length:=by
 have key:∀ (L:List Nat) (path:Nat) {p:Pump},SI N p.s -> path < p.s.paths.length -> (L.foldl (zcd path) p).s.paths.length=p.s.paths.length:=by
  intro L path
  induction L with
  | nil=>intro p _ _;rfl
  | cons i L ih =>
   intro p hS hp
   obtain ⟨h1,h2⟩:=zlt hS hp i
   rw [List.foldl_cons,ih h1 (by rw [h2];exact hp),h2]
 exact key _ _ hS (choose_lt' hS)
theorem yrw {N:Nat} {E:Sender} (hE:SI N E) (hp:E.paths.length=1 \/ E.paths.length=2) (most:Int):(nexts 61 (again (forward ⟨E,[[],[]]⟩))).s=(nexts 61 (again (forward ⟨E,List.replicate E.paths.length []⟩))).s /\
 zbb most 0 (nexts 61 (again (forward ⟨E,[[],[]]⟩))).out=zbb most 0 (nexts 61 (again (forward ⟨E,List.replicate E.paths.length []⟩))).out:=by
 rcases hp with hp | hp
 . have e0:(⟨E,[[],[]]⟩:Pump)=ext ⟨E,[[]]⟩:=rfl
   have hc0:choose E < 1:=by rw [<- hp];exact choose_lt' hE
   rw [hp,e0,ydt (p:=⟨E,[[]]⟩) hc0]
   show _ /\ _=zbb most 0 (nexts 61 (again (forward ⟨E,[[]]⟩))).out
   have hF:SI N (forward ⟨E,[[]]⟩).s:=zfs hE
   have hFo:(forward ⟨E,[[]]⟩).out.length=1:=by unfold forward;split <;> simp [zds]
   have hFp:(forward ⟨E,[[]]⟩).s.paths.length=1:=by unfold forward;split <;> simp [zds,hp]
   have hc1:choose (forward ⟨E,[[]]⟩).s < (forward ⟨E,[[]]⟩).out.length:=by rw [hFo,<- hFp];exact choose_lt' hF
   rw [yop hc1,ybf 61 (zoq hF) (by rw [yoq hc1,yjt hF,hFo,hFp])]
   exact ⟨rfl,znx most 0 _⟩
 . rw [hp];exact ⟨rfl,rfl⟩
theorem ybg (most path:Int):∀ (n:Nat) (l:List Chunk),(packN most path n l).length <= n
 | 0,_=>Nat.le_refl _
 | n+1,l=>by
  unfold packN
  split
  . exact Nat.zero_le _
  . have h:=ybg most path n (l.drop (room1 most l).toNat)
    have h1:(pack1 most path l).length <= 1:=by unfold pack1;split <;> simp
    rw [List.length_append];omega
theorem yvm (most:Int) (a c:List Chunk):zbb most 0 ([a,c].take 0)++packN most 0 a.length a=zbb most 0 ([a,c].take (0+1)):=by simp [zbb]
theorem yvn (most:Int) (a c:List Chunk):zbb most 0 ([a,c].take 1)++packN most 1 c.length c=zbb most 0 ([a,c].take (1+1)):=by simp [zbb]
theorem yox (most:Int) (a c:List Chunk):(zbb most 0 ([a,c].take 0)).length=0:=rfl
theorem yoy (most:Int) (a c:List Chunk):(zbb most 0 ([a,c].take 1)).length <= a.length:=by
 have:=ybg most 0 a.length a
 simpa [zbb] using this
end Snd
namespace Snd
open Ser
theorem ybh (t:Sender) (came life:Int):FunOK Tryz.prog 98 [i64 came,i64 life,.ptr 1000 0] (lk .free [(1000,scS t)]) (hbool (old t.clock came life)) (lk .free [(1000,scS t)]):=by
 refine zal mixed Tryz.func98 (by decide) [1000] zba ?_
 conv=>whnf
 by_cases c1:life > 0
 . refine sT ?_
   refine sR ?_
   try refine sT ?_
   exact yy123
 . refine sN ?_
   try refine sN ?_
   exact yy123
abbrev rpS (t:Sender):List (Nat × HSlot):=[(1,scS t),(2,sc0)]
abbrev puH (E:Sender) (p:Pump):List (Nat × HSlot):=[(1,scS E),(2,sc0),(96,pdP p.s 900 901),(900,rowK (nth0 p.out)),(901,rowK (nth1 p.out))]
theorem zxd:∀ {b:List Sent} {z:Int} {sk:List Skip},(∀ (i:Nat) s,b[i]?=some s -> s.number=z+1+i) -> z <= (Sco.zdg z sk b).1
 | [],z,sk,_=>Int.le_refl _
 | s :: r,z,sk,h=>by
  have h0:=h 0 s rfl
  have hr:∀ (i:Nat) t,r[i]?=some t -> t.number=s.number+1+i:=by
   intro i t ht
   have:=h (i+1) t (by simpa using ht)
   omega
  rw [Sco.zdg]
  split
  . exact Int.le_refl _
  . split
    . split
      . exact Int.le_refl _
      . have:=zxd (sk:=Sco.skip s.chunk sk) hr;omega
    . have:=zxd (sk:=sk) hr;omega
theorem zhk {N:Nat} (s:Sender) (hS:SI N s) (hL:SL s):FunOK Tryz.prog 40 [s.hv] zad (.tup [(pump s).1.hv,.p (.sl 3 ((pump s).2.map Packet.row))]) zad:=by
 have hP:pump s=(woken (nexts 61 (again (forward ⟨expire s,List.replicate s.paths.length []⟩))).s,zbb s.config.packet 0 (nexts 61 (again (forward ⟨expire s,List.replicate s.paths.length []⟩))).out):=rfl
 generalize pump s=P at hP ⊢
 have hsq:=hS.fit.queue
 refine zai mixed Tryz.func40 (by decide) ?_
 conv=>whnf
 refine ⟨{ x:(List Queued × List Queued) × Sender // s.queue=x.1.1++x.1.2 /\ x.1.1.foldl expQ s=x.2 /\ SI N x.2 /\ x.2.fates.length=s.fates.length },
  fun | ⟨((A,B),t),_⟩=>hs 331 [(1,.ptr 1 0),(2,.ptr 2 0),(4,.clo 98 [.ptr 1 0]),(27,Sch.qs s.queue),(28,i64 s.queue.length),(29,i64 A.length)] (rpS t),fun x=>x.1.1.2.length,⟨(([],s.queue),s),rfl,rfl,hS,rfl⟩,?_,?_⟩
 . exact (hle_Q [(1,some 1),(2,some 2)])
 rintro ⟨⟨⟨A,B⟩,t⟩,k1,k2,k3,k4⟩
 dsimp only at k1 k2 k3 k4
 refine zbh fun Q hQ=>?_
 conv=>whnf
 cases B with
 | cons m B =>
  have hz:=zat k1
  have hnext:(A++[m]).foldl expQ s=expQ t m:=by rw [List.foldl_append,k2];rfl
  have hq:=hS.queue m (zef k1)
  have hm0:=hq.id0
  have hm1:=hq.id1
  obtain ⟨id,hid⟩:∃ k:Nat,m.id=k:=⟨m.id.toNat,by omega⟩
  have kn:=ymy k3 (m:=m) (by omega)
  refine sT ?_
  refine zah k1 rfl ?_;conv=>whnf
  (refine zae [] [(1000,1)] [] ?_;(conv=>whnf);refine dG (ybh t m.came m.message.life) ?_)
  cases ho:old t.clock m.came m.message.life with
  | true =>
   rw [expQ,if_pos ho] at hnext kn
   have pg:=zti t id k3 (by omega)
   rw [<- hid] at pg
   conv=>whnf
   (try (refine hcut.go ?_;conv=>whnf))
   (refine cP ?_;refine dL pg ?_)
   refine sF ?_
   refine hQ _ _ ?_;conv=>whnf
   exact ⟨⟨((A++[m],B),giveS t m.id),zag k1,hnext,kn.1,kn.2.trans k4⟩,(hle_Q [(1,some 1),(2,some 2)]),by simp⟩
  | false =>
   rw [expQ,if_neg (by rw [ho];decide)] at hnext
   conv=>whnf
   (try (refine hcut.go ?_;conv=>whnf))
   refine sF ?_
   refine hQ _ _ ?_;conv=>whnf
   exact ⟨⟨((A++[m],B),t),zag k1,hnext,k3,k4⟩,(hle_Q [(1,some 1),(2,some 2)]),by simp⟩
 | nil =>
 have hz:=zaz k1
 rw [List.append_nil] at k1
 rw [<- k1] at k2
 have hE2:t.out.foldl expX t=expire s:=by rw [expire,k2]
 have hES:=(zqs hS).1
 have hEL:=ybc hL
 have hER:=(zzo hS.pf).2
 generalize expire s=E at hE2 hES hEL hER hP
 refine sN ?_
 refine hQ _ _ ?_;conv=>whnf
 refine ⟨{ x:(List Sent × List Sent) × Sender // t.out=x.1.1++x.1.2 /\ x.1.1.foldl expX t=x.2 /\ SI N x.2 /\ x.2.fates.length=t.fates.length },
  fun | ⟨((A,B),u),_⟩=>hs 331 [(1,.ptr 1 0),(2,.ptr 2 0),(4,.clo 98 [.ptr 1 0]),(46,Sco.sents t.out),(47,i64 t.out.length),(48,i64 A.length)] (rpS u),fun x=>x.1.1.2.length,⟨(([],t.out),t),rfl,rfl,k3,rfl⟩,?_,?_⟩
 . exact (hle_Q [(1,some 1),(2,some 2)])
 have g4:=k3.out
 have hto:=k3.fit.out.len
 clear k4 k2 k1 hQ Q
 rintro ⟨⟨⟨A,B⟩,u⟩,k1,k2,k3,k4⟩
 dsimp only at k1 k2 k3 k4
 refine zbh fun Q hQ=>?_
 conv=>whnf
 cases B with
 | cons x B =>
  have hz:=zat k1
  have hnext:(A++[x]).foldl expX t=expX u x:=by rw [List.foldl_append,k2];rfl
  have hm:=g4 x (zef k1)
  have hm0:=hm.id0
  have hm1:=hm.id1
  obtain ⟨id,hid⟩:∃ k:Nat,x.id=k:=⟨x.id.toNat,by omega⟩
  have kn:=ymz k3 (m:=x) (by omega)
  have hidl:id < u.fates.length:=by omega
  have pg:=zti u id k3 hidl
  rw [<- hid] at pg
  obtain ⟨f,hf⟩:∃ f,u.fates[id]?=some f:=⟨_,List.getElem?_eq_getElem hidl⟩
  have hdue:dueX u x=(decide (f=1) && (decide (x.state ≠ 2) && (old u.clock x.came x.life || (decide (x.state=3) && (decide (x.tries > 0) && decide (x.times > x.tries)))))):=by
   unfold dueX
   rw [hid,Int.toNat_natCast,hf];rfl
  refine sT ?_
  refine zah k1 rfl ?_;conv=>whnf
  refine zaj hf (by omega) ?_;conv=>whnf
  by_cases d1:f=1
  case neg =>
   refine zab ?_ ?_
   . simpa using d1
   conv=>whnf
   (try (refine hcut.go ?_;conv=>whnf))
   refine sF ?_
   refine hQ _ _ ?_;conv=>whnf
   rw [expX,if_neg (by rw [hdue];simp [d1])] at hnext
   exact yy65
  refine zac ?_ ?_
  . simpa using d1
  conv=>whnf
  by_cases d2:x.state=2
  case pos =>
   refine zab ?_ ?_
   . simpa using d2
   conv=>whnf
   (try (refine hcut.go ?_;conv=>whnf))
   refine sF ?_
   refine hQ _ _ ?_;conv=>whnf
   rw [expX,if_neg (by rw [hdue];simp [d1,d2])] at hnext
   exact yy65
  refine zac ?_ ?_
  . simpa using d2
  conv=>whnf
  (refine zae [] [(1000,1)] [] ?_;(conv=>whnf);refine dG (ybh u x.came x.life) ?_)
  cases d3:old u.clock x.came x.life with
  | true =>
   conv=>whnf
   (try (refine hcut.go ?_;conv=>whnf))
   (refine cP ?_;refine dL pg ?_)
   refine sF ?_
   refine hQ _ _ ?_;conv=>whnf
   rw [expX,if_pos (by rw [hdue];simp [d1,d2,d3])] at hnext kn
   exact yy136
  | false =>
  conv=>whnf
  by_cases d4:x.state=3
  case neg =>
   refine zab ?_ ?_
   . simpa using d4
   conv=>whnf
   (try (refine hcut.go ?_;conv=>whnf))
   refine sF ?_
   refine hQ _ _ ?_;conv=>whnf
   rw [expX,if_neg (by rw [hdue];simp [d1,d2,d3,d4])] at hnext
   exact yy65
  refine zac ?_ ?_
  . simpa using d4
  conv=>whnf
  by_cases d5:x.tries > 0
  case neg =>
   refine zab ?_ ?_
   . simpa using d5
   conv=>whnf
   (try (refine hcut.go ?_;conv=>whnf))
   refine sF ?_
   refine hQ _ _ ?_;conv=>whnf
   rw [expX,if_neg (by rw [hdue];simp [d1,d2,d3,d4,d5])] at hnext
   exact yy65
  refine zac ?_ ?_
  . simpa using d5
  conv=>whnf
  by_cases d6:x.times > x.tries
  case neg =>
   refine zab ?_ ?_
   . simpa using d6
   conv=>whnf
   (try (refine hcut.go ?_;conv=>whnf))
   refine sF ?_
   refine hQ _ _ ?_;conv=>whnf
   rw [expX,if_neg (by rw [hdue];simp [d1,d2,d3,d4,d5,d6])] at hnext
   exact yy65
  refine zac ?_ ?_
  . simpa using d6
  conv=>whnf
  (try (refine hcut.go ?_;conv=>whnf))
  (refine cP ?_;refine dL pg ?_)
  refine sF ?_
  refine hQ _ _ ?_;conv=>whnf
  rw [expX,if_pos (by rw [hdue];simp [d1,d2,d3,d4,d5,d6])] at hnext kn
  exact yy136
 | nil =>
 have hz:=zaz k1
 rw [List.append_nil] at k1
 rw [<- k1,hE2] at k2
 subst k2
 refine sN ?_
 refine hQ _ _ ?_;conv=>whnf
 have hfe:=hES.fit
 (refine cP ?_;refine dL (Sco.zhw E.out E.cum hfe.out.len) ?_)
 refine sDm ?_
 have hpl:1 <= E.paths.length /\ E.paths.length <= 2:=by have:=hES.npaths;have:=zca hES.cfg;omega
 obtain ⟨hch,hch2⟩:=zck (s:=E) (by omega)
 obtain ⟨w,hw⟩:∃ w,E.paths[choose E]?=some w:=⟨_,List.getElem?_eq_getElem hch2⟩
 have hc01:choose E=0 \/ choose E=1:=by omega
 have hge:=zxd (sk:=[]) hES.nums
 have pc:=Paths.zgl E.paths (by omega)
 rw [hch] at pc
 generalize hF:forward ⟨E,[[],[]]⟩=F
 refine hcut.meet PUnit (fun _=>hs 331 [(1,.ptr 1 0),(2,.ptr 2 0),(9,.ptr 96 0)] (puH E F)) ?_ ?_
 . conv=>whnf
   by_cases f1:E.forward=true
   case neg =>
    rw [znu (.inl (by simpa using f1))] at hF
    subst hF
    refine zab (by simpa using f1) ?_;conv=>whnf
    exact ⟨⟨⟩,(hle_Q [(1,some 1),(2,some 2),(96,some 96),(900,none),(901,none)])⟩
   refine zac f1 ?_;conv=>whnf
   by_cases f2:(Sco.point E.out E.cum).1 > E.cum
   case neg =>
    rw [znu (.inr (by unfold Sco.point at f2 ⊢;omega))] at hF
    subst hF
    refine zab (decide_eq_false f2) ?_;conv=>whnf
    exact ⟨⟨⟩,(hle_Q [(1,some 1),(2,some 2),(96,some 96),(900,none),(901,none)])⟩
   refine zac (decide_eq_true f2) ?_;conv=>whnf
   have fy:¬ (E.forward=false \/ (Sco.point E.out E.cum).1=E.cum):=by rintro (h | h);rw [f1] at h;cases h;omega
   rcases hc01 with hc | hc
   . rw [zqk fy hw (l:=[]) (by rw [hc];rfl)] at hF
     rw [hc] at pc hw hF
     subst hF
     (refine cL ?_;refine dL pc ?_)
     refine ⟨0,rfl,by decide,?_⟩;conv=>whnf
     (refine cL ?_;refine dL (zbv _) ?_)
     refine zaa (c:=(1:Nat) * 128 <= 140737488355328) (by decide) ?_;conv=>whnf
     refine ⟨0,rfl,by decide,?_⟩;conv=>whnf
     refine sD ?_
     refine zaa (c:=(([]:List (List PV)).length+(E.paths.map Path.row).length) * 56 <= 140737488355328) (by simp;omega) ?_;conv=>whnf
     (try (refine hcut.go ?_;conv=>whnf))
     have hl:=(List.getElem?_eq_some_iff.1 hw).1
     refine sOm ?_
     refine zaj (l:=E.paths) hw rfl ?_;conv=>whnf
     by_cases c3:w.alarm=0
     case neg =>
      have hr:([]:List (List PV))++E.paths.map Path.row=(E.paths.set 0 (alarm E w)).map Path.row:=by rw [zln c3,zhv hw];rfl
      refine zab (beq_eq_false_iff_ne.2 c3) ?_;conv=>whnf
      exact yy67
     have hr:(([]:List (List PV))++E.paths.map Path.row).set 0 ({ w with alarm:=W (E.clock+w.wait) }:Path).row=(E.paths.set 0 (alarm E w)).map Path.row:=by rw [ziv c3,List.map_set];rfl
     refine zac (beq_iff_eq.2 c3) ?_;conv=>whnf
     refine sOm ?_
     refine zaj (l:=E.paths) hw rfl ?_;conv=>whnf
     refine sRm ?_
     refine sOm ?_
     refine zaj (l:=E.paths) hw rfl ?_;conv=>whnf
     refine sDm ?_
     exact yy67
   . rw [zqk fy hw (l:=[]) (by rw [hc];rfl)] at hF
     rw [hc] at pc hw hF
     subst hF
     (refine cL ?_;refine dL pc ?_)
     refine ⟨1,rfl,by decide,?_⟩;conv=>whnf
     (refine cL ?_;refine dL (zbv _) ?_)
     refine zaa (c:=(1:Nat) * 128 <= 140737488355328) (by decide) ?_;conv=>whnf
     refine ⟨1,rfl,by decide,?_⟩;conv=>whnf
     refine sD ?_
     refine zaa (c:=(([]:List (List PV)).length+(E.paths.map Path.row).length) * 56 <= 140737488355328) (by simp;omega) ?_;conv=>whnf
     (try (refine hcut.go ?_;conv=>whnf))
     have hl:=(List.getElem?_eq_some_iff.1 hw).1
     refine sOm ?_
     refine zaj (l:=E.paths) hw rfl ?_;conv=>whnf
     by_cases c3:w.alarm=0
     case neg =>
      have hr:([]:List (List PV))++E.paths.map Path.row=(E.paths.set 1 (alarm E w)).map Path.row:=by rw [zln c3,zhv hw];rfl
      refine zab (beq_eq_false_iff_ne.2 c3) ?_;conv=>whnf
      exact yy66
     have hr:(([]:List (List PV))++E.paths.map Path.row).set 1 ({ w with alarm:=W (E.clock+w.wait) }:Path).row=(E.paths.set 1 (alarm E w)).map Path.row:=by rw [ziv c3,List.map_set];rfl
     refine zac (beq_iff_eq.2 c3) ?_;conv=>whnf
     refine sOm ?_
     refine zaj (l:=E.paths) hw rfl ?_;conv=>whnf
     refine sRm ?_
     refine sOm ?_
     refine zaj (l:=E.paths) hw rfl ?_;conv=>whnf
     refine sDm ?_
     exact yy66
 rintro ⟨⟩
 have hFs:SI N F.s:=hF ▸ zfs hES
 have hFL:SL F.s:=by unfold SL;rw [<- hF,zly];exact hEL
 have hFo:F.out.length=2:=by rw [<- hF];unfold forward;split <;> simp [zds]
 have hFp:F.s.paths.length=E.paths.length:=by rw [<- hF];unfold forward;split <;> simp [zds]
 have hF01:(nth0 F.out).length <= 1 /\ (nth1 F.out).length <= 1:=by
  rw [<- hF];unfold forward;split
  . simp [nth0,nth1]
  . rcases hc01 with hc | hc <;> simp [hc,nth0,nth1,setAt]
 clear pc hge hw hc01 hch hch2 w
 obtain ⟨hch,hch2⟩:=zck (s:=F.s) (by omega)
 have pc:=Paths.zgl F.s.paths (by omega)
 rw [hch] at pc
 have hc01:choose F.s=0 \/ choose F.s=1:=by omega
 generalize hcf:choose F.s=cf at pc hch2 hc01
 have hFN:=hFs.len
 have hNN:=hFs.few
 have hFl:=hFs.fit.out.len
 conv=>whnf
 (refine cL ?_;refine dL pc ?_)
 refine ⟨{ x:Nat × Pump // x.1 <= F.s.out.length /\ (List.range x.1).foldl (zcd (cf)) F=x.2 /\ SI N x.2.s /\ x.2.out.length=2 /\ x.2.s.paths.length=E.paths.length /\ x.2.s.out.length=F.s.out.length /\ (nth0 x.2.out).length <= 1+x.1 /\ (nth1 x.2.out).length <= 1+x.1 /\ SL x.2.s },fun | ⟨(i,p),_⟩=>hs 331 [(1,.ptr 1 0),(2,.ptr 2 0),(9,.ptr 96 0),(14,i64 (cf)),(196,i64 F.s.out.length),(197,i64 i)] (puH E p),fun x=>F.s.out.length - x.1.1,⟨(0,F),Nat.zero_le _,rfl,hFs,hFo,hFp,rfl,hF01.1,hF01.2,hFL⟩,?_,?_⟩
 . exact (hle_X [(1,some 1),(2,some 2),(96,some 96),(900,some 900),(901,some 901)] (by repeat' (first | exact z0 | refine z1 ?_ | refine ⟨?_,?_⟩ | ((exact zaw (by simp))) | exact z2)))
 rintro ⟨⟨i,p⟩,k1,k2,k3,k4,k5,k6,k7,k8,k9⟩
 dsimp only at k1 k2 k3 k4 k5 k6 k7 k8 k9
 refine zbh fun Q hQ=>?_
 conv=>whnf
 by_cases hi:i < F.s.out.length
 case pos =>
  obtain ⟨x,hx⟩:∃ x,p.s.out[i]?=some x:=⟨_,List.getElem?_eq_getElem (by omega)⟩
  obtain ⟨w,hw⟩:∃ w,p.s.paths[cf]?=some w:=⟨_,List.getElem?_eq_getElem (by omega)⟩
  have hst:=zfr (zcd (cf)) F i
  rw [k2] at hst
  obtain ⟨ps,po⟩:=p
  obtain ⟨a,c,hac⟩:∃ a c,po=[a,c]:=⟨_,_,ymn k4⟩
  subst hac
  have k7:a.length <= 1+i:=k7
  have k8:c.length <= 1+i:=k8
  dsimp only at hx hw k3 k5 k6 hst
  have hno:=zlo (o:=[a,c]) (c:=cf) hx hw
  have hyes:=fun l (hl:[a,c][cf]?=some l)=>ziw (o:=[a,c]) (c:=cf) (l:=l) hx hw hl
  refine sT ?_
  refine zaj hx rfl ?_;conv=>whnf
  by_cases d1:x.state=3
  case neg =>
   rw [hno fun h=>d1 h.1] at hst
   refine zab (beq_eq_false_iff_ne.2 d1) ?_;conv=>whnf
   exact yy73
  refine zac (beq_iff_eq.2 d1) ?_;conv=>whnf
  have po:=ztj ps a c (cf) w hw (by omega)
  rw [show opened ps (cf)=decide (w.flight < w.window) by rw [opened,hw]] at po
  by_cases d2:w.flight < w.window
  case neg =>
   rw [hno fun h=>d2 h.2] at hst
   rw [decide_eq_false d2] at po
   (refine zae [] [(1000,96),(1007,900),(1008,901)] [] ?_;(conv=>whnf);refine dG po ?_)
   exact yy73
  rw [decide_eq_true d2] at po
  (refine zae [] [(1000,96),(1007,900),(1008,901)] [] ?_;(conv=>whnf);refine dG po ?_)
  have hyes:=fun l hl=>hyes l hl ⟨d1,d2⟩
  have hn:=zlt (p:=⟨ps,[a,c]⟩) k3 (path:=cf) (by show cf < ps.paths.length;omega) i
  rcases hc01 with rfl | rfl
  . have hy:=hyes a rfl
    have hn1:=hn.1
    have hn2:=hn.2
    rw [hy] at hst hn1 hn2
    have hfe:=zkp (p:=⟨ps,[a,c]⟩) (N:=N) (i:=i) (path:=0) (by rw [ztc hx hw (l:=a) rfl];exact hn1) hx hw
    rw [ztc hx hw (l:=a) rfl] at hfe
    have pf:=ztk false ps (flyS ps i 0 x w) a c i x hx hn1.fit.out (by omega) hfe (by omega)
    (refine zae [] [(1000,96),(1007,900),(1008,901)] [(0,970)] ?_;(conv=>whnf);refine dG pf ?_)
    refine sF ?_
    refine hQ _ _ ?_;conv=>whnf
    exact ⟨⟨(i+1,⟨flyS ps i 0 x w,[a++[x.chunk],c]⟩),by dsimp only;omega,hst,hn1,rfl,hn2.trans k5,by show (ps.out.set i _).length=_;rw [List.length_set];exact k6,by show (a++[x.chunk]).length <= 1+(i+1);rw [List.length_append];simp only [List.length_cons,List.length_nil];omega,by show c.length <= 1+(i+1);omega,k9⟩,(hle_Q [(1,some 1),(2,some 2),(96,some 96),(900,some 970),(901,some 901)]),by dsimp only;omega⟩
  . have hy:=hyes c rfl
    have hn1:=hn.1
    have hn2:=hn.2
    rw [hy] at hst hn1 hn2
    have hfe:=zkp (p:=⟨ps,[a,c]⟩) (N:=N) (i:=i) (path:=1) (by rw [ztc hx hw (l:=c) rfl];exact hn1) hx hw
    rw [ztc hx hw (l:=c) rfl] at hfe
    have pf:=ztl false ps (flyS ps i 1 x w) a c i x hx hn1.fit.out (by omega) hfe (by omega)
    (refine zae [] [(1000,96),(1007,900),(1008,901)] [(0,970)] ?_;(conv=>whnf);refine dG pf ?_)
    refine sF ?_
    refine hQ _ _ ?_;conv=>whnf
    exact ⟨⟨(i+1,⟨flyS ps i 1 x w,[a,c++[x.chunk]]⟩),by dsimp only;omega,hst,hn1,rfl,hn2.trans k5,by show (ps.out.set i _).length=_;rw [List.length_set];exact k6,by show a.length <= 1+(i+1);omega,by show (c++[x.chunk]).length <= 1+(i+1);rw [List.length_append];simp only [List.length_cons,List.length_nil];omega,k9⟩,(hle_Q [(1,some 1),(2,some 2),(96,some 96),(900,some 900),(901,some 970)]),by dsimp only;omega⟩
 have hin:i=F.s.out.length:=by omega
 subst hin
 have hag:again F=p:=by unfold again;rw [hcf];exact k2
 refine sN ?_
 refine hQ _ _ ?_;conv=>whnf
 generalize hN61:nexts 61 p=R
 refine ⟨{ x:Nat × Pump // nexts x.1 x.2=R /\ SI N x.2.s /\ x.2.out.length=2 /\ x.2.s.paths.length=E.paths.length /\ 61 <= x.1+x.2.s.out.length /\ x.1 <= 61 /\ (nth0 x.2.out).length+x.1 <= 62+F.s.out.length /\ (nth1 x.2.out).length+x.1 <= 62+F.s.out.length /\ SL x.2.s },fun | ⟨(j,p),_⟩=>hs 331 [(1,.ptr 1 0),(2,.ptr 2 0),(9,.ptr 96 0)] (puH E p),fun x=>x.1.1,⟨(61,p),hN61,k3,k4,k5,by dsimp only;omega,by dsimp only;omega,by dsimp only;omega,by dsimp only;omega,k9⟩,?_,?_⟩
 . exact (hle_Q [(1,some 1),(2,some 2),(96,some 96),(900,some 900),(901,some 901)])
 clear hQ Q k1 k2 k3 k4 k5 k6 k7 k8 k9 hi
 rintro ⟨⟨j,p'⟩,k1,k3,k4,k5,k6,k6',k7,k8,k9⟩
 dsimp only at k1 k3 k4 k5 k6 k6' k7 k8 k9
 refine zbh fun Q hQ=>?_
 conv=>whnf
 obtain ⟨ps,po⟩:=p'
 obtain ⟨a,c,hac⟩:∃ a c,po=[a,c]:=⟨_,_,ymn k4⟩
 subst hac
 have k7:a.length+j <= 62+F.s.out.length:=k7
 have k8:c.length+j <= 62+F.s.out.length:=k8
 dsimp only at k3 k5 k6 k9
 have pn:=zqx ps a c k3.pf.nfit (fun _=>k9) (by omega) (by omega) fun k m hm=>by
  have hc:=ync k3 hm
  have hx:(cutS ps k m).out[ps.out.length]?=some (⟨ps.next,m.id,0,0,0,0,m.came,m.message.life,m.message.tries,cut ps m (many ps m)⟩:Sent):=by
   show (ps.out++[_])[ps.out.length]?=_
   rw [List.getElem?_append_right (Nat.le_refl _)];simp
  have hcl:=choose_lt' k3
  obtain ⟨w,hw⟩:∃ w,ps.paths[choose ps]?=some w:=⟨_,List.getElem?_eq_getElem hcl⟩
  have hfs:SI N (fly ⟨cutS ps k m,[a,c]⟩ ps.out.length (choose ps)).s:=yna (p:=⟨cutS ps k m,[a,c]⟩) hc hx (by show (0:Int) ≠ 1;decide) hcl
  have hff:=zkp (p:=⟨cutS ps k m,[a,c]⟩) hfs hx hw
  refine ⟨?_,hff⟩
  have h:=hfs.fit.out
  rw [<- hff] at h
  exact h
 cases hnx:next ⟨ps,[a,c]⟩ with
 | some q =>
  rw [show nx ps [a,c]=(q,true) by rw [nx,hnx]] at pn
  obtain ⟨t1,t2,t3,t4,t5,t6⟩:=yru hnx
  have hqs:=zqu (p:=⟨ps,[a,c]⟩) k3 hnx
  have hql:=yot (p:=⟨ps,[a,c]⟩) k3 hnx
  obtain ⟨j,rfl⟩:∃ j',j=j'+1:=⟨j - 1,by omega⟩
  rw [nexts,hnx] at k1
  (refine zae [] [(1000,96),(1007,900),(1008,901)] [(0,980),(1,981)] ?_;(conv=>whnf);refine dG pn ?_)
  refine hQ _ _ ?_;conv=>whnf
  exact ⟨⟨(j,q),k1,hqs,t2,t3.trans k5,by dsimp only;omega,by dsimp only;omega,by dsimp only;omega,by dsimp only;omega,hql⟩,(hle_Q [(1,some 1),(2,some 2),(96,some 96),(900,some 980),(901,some 981)]),by dsimp only;omega⟩
 | none =>
 rw [show nx ps [a,c]=(⟨ps,[a,c]⟩,false) by rw [nx,hnx]] at pn
 rw [zmv hnx] at k1
 (refine zae [] [(1000,96),(1007,900),(1008,901)] [(0,980),(1,981)] ?_;(conv=>whnf);refine dG pn ?_)
 refine hQ _ _ ?_;conv=>whnf
 subst k1
 have hout:=k3.fit.out.len
 clear hQ Q pn
 (refine cP ?_;refine dL (Sco.zhw ps.out ps.cum hout) ?_)
 refine sD ?_
 generalize hZ:(Sco.point ps.out ps.cum).1=Z
 refine ⟨{ x:List Path × List Path // ps.paths=x.1++x.2 },fun | ⟨(A,B),_⟩=>hs 331 [(1,.ptr 1 0),(2,.ptr 2 0),(9,.ptr 96 0),(10,i64 Z),(16,.own 910),(240,pths ps.paths),(241,i64 ps.paths.length),(242,i64 A.length)] ((910,rowW (A.map (wake ps Z))) :: puH E ⟨ps,[a,c]⟩),fun x=>x.1.2.length,⟨([],ps.paths),rfl⟩,?_,?_⟩
 . exact (hle_Q [(1,some 1),(2,some 2),(96,some 96),(900,some 980),(901,some 981),(910,none)])
 rintro ⟨⟨A,B⟩,h⟩
 dsimp only at h
 have hpql:ps.paths.length=A.length+B.length:=by rw [h];simp
 refine zbh fun Q hQ=>?_
 conv=>whnf
 cases B with
 | cons x B =>
  have hz:=zat h
  refine sT ?_
  refine zah h rfl ?_;conv=>whnf
  (try (refine hcut.go ?_;conv=>whnf))
  by_cases f1:x.flight > 0
  case pos =>
   refine zac (decide_eq_true f1) ?_;conv=>whnf
   by_cases f2:x.alarm=0
   case pos =>
    have hwk:wake ps Z x={ x with alarm:=W (ps.clock+x.wait) }:=if_pos ⟨f1,f2⟩
    refine zac (beq_iff_eq.2 f2) ?_;conv=>whnf
    refine sR ?_
    refine sD ?_
    exact yy11
   have hwk:wake ps Z x=x:=by unfold wake;rw [if_neg (fun h=>f2 h.2),if_neg (fun h=>by omega)]
   refine zab (beq_eq_false_iff_ne.2 f2) ?_;conv=>whnf
   (try (refine hcut.go ?_;conv=>whnf))
   refine zab (beq_eq_false_iff_ne.2 (by omega)) ?_;conv=>whnf
   (try (refine hcut.go ?_;conv=>whnf))
   exact yy11
  refine zab (decide_eq_false f1) ?_;conv=>whnf
  (try (refine hcut.go ?_;conv=>whnf))
  by_cases f3:x.flight=0
  case neg =>
   have hwk:wake ps Z x=x:=by unfold wake;rw [if_neg (fun h=>f1 h.1),if_neg (fun h=>f3 h.1)]
   refine zab (beq_eq_false_iff_ne.2 f3) ?_;conv=>whnf
   (try (refine hcut.go ?_;conv=>whnf))
   exact yy11
  refine zac (beq_iff_eq.2 f3) ?_;conv=>whnf
  by_cases f4:Z=ps.cum
  case neg =>
   have hwk:wake ps Z x=x:=by unfold wake;rw [if_neg (fun h=>f1 h.1),if_neg (fun h=>f4 h.2)]
   refine zab (beq_eq_false_iff_ne.2 f4) ?_;conv=>whnf
   (try (refine hcut.go ?_;conv=>whnf))
   exact yy11
  have hwk:wake ps Z x={ x with alarm:=0 }:=by unfold wake;rw [if_neg (fun h=>f1 h.1),if_pos ⟨f3,f4⟩]
  refine zac (beq_iff_eq.2 f4) ?_;conv=>whnf
  (try (refine hcut.go ?_;conv=>whnf))
  exact yy11
 | nil =>
 have hz:=zaz h
 rw [List.append_nil] at h
 subst h
 refine sN ?_
 refine hQ _ _ ?_;conv=>whnf
 clear hQ Q
 have hok0:OK2 ⟨E,[[],[]]⟩:=by
  intro l hl x hx
  simp at hl
  rw [hl] at hx
  cases hx
 have hok:OK2 ⟨ps,[a,c]⟩:=by
  rw [<- hN61,<- hag,<- hF]
  exact ybe 61 (zoq (zfs hES)) (yow (zfs hES) (ydu hok0))
 have hP2:P=(woken ps,zbb E.config.packet 0 [a,c]):=by
  obtain ⟨e1,e2⟩:=yrw hES (by omega) E.config.packet
  rw [hP,<- hER.paths,<- hER.config,<- e1,<- e2,hF,hag,hN61]
 have hka:∀ x ∈ a,Okc x:=hok a (by simp)
 have hkc:∀ x ∈ c,Okc x:=hok c (by simp)
 subst hZ
 generalize hV:woken ps=V at hP2
 refine ⟨{ k:Nat // k <= 2 },fun | ⟨k,_⟩=>hs 331 [(1,.ptr 1 0),(2,.ptr 2 0),(9,.ptr 96 0),(19,.own 920),(289,.agg [.p (.sl 11 (a.map Chunk.row)),.p (.sl 11 (c.map Chunk.row))]),(290,i64 k)] [(1,scS E),(2,sc0),(96,.live (.cells 148 (pdC V (Sch.qs V.queue) (ints V.sched.had) (Sco.sents V.out) (pths V.paths) (ints V.mids) (ints V.fates) (.p (.sl 11 (a.map Chunk.row))) (.p (.sl 11 (c.map Chunk.row)))))),(920,rowPk (zbb E.config.packet 0 ([a,c].take k)))],fun k=>2 - k.1,⟨0,by omega⟩,?_,?_⟩
 . subst hV
   exact (hle_Z [900,901,910] [(1,some 1),(2,some 2),(96,some 96),(920,none)] (by repeat' (first | exact z0 | refine z1 ?_ | refine ⟨?_,?_⟩ | exact z2)))
 rintro ⟨k,hk⟩
 refine zbh fun Q hQ=>?_
 conv=>whnf
 obtain rfl | rfl | rfl:k=0 \/ k=1 \/ k=2:=by omega
 . skip
   (try (refine hcut.go ?_;conv=>whnf))
   refine ⟨0,rfl,by decide,?_⟩;conv=>whnf
   refine ⟨{ x:Nat × List Chunk × List Packet // x.2.2++packN E.config.packet 0 x.1 x.2.1=zbb E.config.packet 0 ([a,c].take (0+1)) /\ x.2.1.length <= x.1 /\ (∀ z ∈ x.2.1,Okc z) /\ x.2.2.length+x.2.1.length <= 2 ^ 36 },fun | ⟨(n,L,acc),_⟩=>hs 331 [(1,.ptr 1 0),(2,.ptr 2 0),(9,.ptr 96 0),(19,.own 920),(20,i64 0),(21,.p (.sl 11 (L.map Chunk.row))),(289,.agg [.p (.sl 11 (a.map Chunk.row)),.p (.sl 11 (c.map Chunk.row))]),(290,i64 0)] [(1,scS E),(2,sc0),(96,.live (.cells 148 (pdC V (Sch.qs V.queue) (ints V.sched.had) (Sco.sents V.out) (pths V.paths) (ints V.mids) (ints V.fates) (.p (.sl 11 (a.map Chunk.row))) (.p (.sl 11 (c.map Chunk.row)))))),(920,rowPk acc)],fun x=>x.1.2.1.length,⟨(a.length,a,zbb E.config.packet 0 ([a,c].take 0)),yvm E.config.packet a c,Nat.le_refl _,hka,by have:=yox E.config.packet a c;dsimp only at this ⊢;omega⟩,?_,?_⟩
   . exact (hle_Q [(1,some 1),(2,some 2),(96,some 96),(920,some 920)])
   rintro ⟨⟨n,L,acc⟩,i1,i2,i3,i4⟩
   dsimp only at i1 i2 i3 i4
   refine zbh fun Q2 hQ2=>?_
   conv=>whnf
   cases L with
   | nil =>
    rw [zix,List.append_nil] at i1
    refine hQ2 _ _ ?_;conv=>whnf
    refine sF ?_
    refine hQ _ _ ?_;conv=>whnf
    exact ⟨⟨0+1,by omega⟩,(hle_X [(1,some 1),(2,some 2),(96,some 96),(920,some 920)] (by repeat' (first | exact z0 | refine z1 ?_ | refine ⟨?_,?_⟩ | ((exact congrArg rowPk i1)) | exact z2))),by dsimp only;omega⟩
   | cons z L =>
   obtain ⟨r,r1,r2,r3⟩:=zqo (most:=E.config.packet) (l:=z :: L) (by simp)
   obtain ⟨n,rfl⟩:∃ n',n=n'+1:=⟨n - 1,by rw [List.length_cons] at i2;omega⟩
   refine sT ?_
   (refine cL ?_;refine dLm (Pck.zyz (z :: L) E.config.packet ⟨by omega,i3⟩) ?_)
   refine hcut.meet PUnit (fun _=>hs 331 [(1,.ptr 1 0),(2,.ptr 2 0),(9,.ptr 96 0),(19,.own 920),(20,i64 0),(21,.p (.sl 11 ((z :: L).map Chunk.row))),(22,i64 (room1 E.config.packet (z :: L))),(289,.agg [.p (.sl 11 (a.map Chunk.row)),.p (.sl 11 (c.map Chunk.row))]),(290,i64 0)] [(1,scS E),(2,sc0),(96,.live (.cells 148 (pdC V (Sch.qs V.queue) (ints V.sched.had) (Sco.sents V.out) (pths V.paths) (ints V.mids) (ints V.fates) (.p (.sl 11 (a.map Chunk.row))) (.p (.sl 11 (c.map Chunk.row)))))),(920,rowPk acc)]) ?_ ?_
   . conv=>whnf
     exact yy41
   rintro ⟨⟩
   conv=>whnf
   (try (refine hcut.go ?_;conv=>whnf))
   refine zaa (by rw [List.length_map];omega) ?_;conv=>whnf
   refine zee (l:=z :: L) (by show 0+(room1 E.config.packet (z :: L) - 0).toNat <= (z :: L).length;omega) ?_
   conv=>whnf
   have hrt:(((z :: L).drop 0).take (room1 E.config.packet (z :: L) - 0).toNat)=(z :: L).take r:=by rw [List.drop_zero,r1];simp
   have pb:=Pck.zgm (((z :: L).drop 0).take (room1 E.config.packet (z :: L) - 0).toNat) E.config.packet (by rw [hrt];exact ⟨by rw [List.length_take];omega,fun c hc=>i3 c (List.mem_of_mem_take hc)⟩)
   generalize hK:Pck.pbytes (((z :: L).drop 0).take (room1 E.config.packet (z :: L) - 0).toNat) E.config.packet=K at pb
   rw [hrt] at hK
   obtain ⟨bts,er⟩:=K
   (refine cP ?_;refine dL pb ?_)
   refine sD ?_
   have hpn:packN E.config.packet 0 (n+1) (z :: L)=(if er=0 then [(⟨0,false,bts⟩:Packet)] else [])++packN E.config.packet 0 n ((z :: L).drop r):=by
    rw [packN,if_neg (by simp),pack1,r1,Int.toNat_natCast,hK]
   rw [hpn] at i1
   by_cases e:er=0
   case pos =>
    rw [if_pos e,<- List.append_assoc] at i1
    refine zac (beq_iff_eq.2 e) ?_;conv=>whnf
    refine zaa (c:=((acc.map Packet.row).length+1) * 40 <= 140737488355328) (by rw [List.length_map];omega) ?_;conv=>whnf
    have hr2:r=(room1 E.config.packet (z :: L)).toNat:=by rw [r1,Int.toNat_natCast]
    refine zaa (by rw [List.length_map];omega) ?_;conv=>whnf
    refine zdq (l:=z :: L) (by show (room1 E.config.packet (z :: L)).toNat+(((List.map Chunk.row (z :: L)).length:Int) - room1 E.config.packet (z :: L)).toNat=(z :: L).length;rw [List.length_map];omega) ?_
    conv=>whnf
    refine hQ2 _ _ ?_;conv=>whnf
    exact ⟨⟨(n,(z :: L).drop r,(acc++[⟨0,false,bts⟩])),i1,by dsimp only;rw [List.length_drop];omega,fun x hx=>i3 x (List.mem_of_mem_drop hx),by dsimp only;rw [List.length_drop];simp only [List.length_append,List.length_cons,List.length_nil] at i4 ⊢;omega⟩,(hle_X [(1,some 1),(2,some 2),(96,some 96),(920,some 321)] (by repeat' (first | exact z0 | refine z1 ?_ | refine ⟨?_,?_⟩ | ((exact zau (f:=Packet.row) rfl rfl)) | ((exact congrArg (fun k=>HV.p (.sl 11 (((z :: L).drop k).map Chunk.row))) hr2)) | exact z2))),by dsimp only;rw [List.length_drop];omega⟩
   case neg =>
    exact yy20
 . skip
   (try (refine hcut.go ?_;conv=>whnf))
   refine ⟨1,rfl,by decide,?_⟩;conv=>whnf
   refine ⟨{ x:Nat × List Chunk × List Packet // x.2.2++packN E.config.packet 1 x.1 x.2.1=zbb E.config.packet 0 ([a,c].take (1+1)) /\ x.2.1.length <= x.1 /\ (∀ z ∈ x.2.1,Okc z) /\ x.2.2.length+x.2.1.length <= 2 ^ 36 },fun | ⟨(n,L,acc),_⟩=>hs 331 [(1,.ptr 1 0),(2,.ptr 2 0),(9,.ptr 96 0),(19,.own 920),(20,i64 1),(21,.p (.sl 11 (L.map Chunk.row))),(289,.agg [.p (.sl 11 (a.map Chunk.row)),.p (.sl 11 (c.map Chunk.row))]),(290,i64 1)] [(1,scS E),(2,sc0),(96,.live (.cells 148 (pdC V (Sch.qs V.queue) (ints V.sched.had) (Sco.sents V.out) (pths V.paths) (ints V.mids) (ints V.fates) (.p (.sl 11 (a.map Chunk.row))) (.p (.sl 11 (c.map Chunk.row)))))),(920,rowPk acc)],fun x=>x.1.2.1.length,⟨(c.length,c,zbb E.config.packet 0 ([a,c].take 1)),yvn E.config.packet a c,Nat.le_refl _,hkc,by have:=yoy E.config.packet a c;dsimp only at this ⊢;omega⟩,?_,?_⟩
   . exact (hle_Q [(1,some 1),(2,some 2),(96,some 96),(920,some 920)])
   rintro ⟨⟨n,L,acc⟩,i1,i2,i3,i4⟩
   dsimp only at i1 i2 i3 i4
   refine zbh fun Q2 hQ2=>?_
   conv=>whnf
   cases L with
   | nil =>
    rw [zix,List.append_nil] at i1
    refine hQ2 _ _ ?_;conv=>whnf
    refine sF ?_
    refine hQ _ _ ?_;conv=>whnf
    exact ⟨⟨1+1,by omega⟩,(hle_X [(1,some 1),(2,some 2),(96,some 96),(920,some 920)] (by repeat' (first | exact z0 | refine z1 ?_ | refine ⟨?_,?_⟩ | ((exact congrArg rowPk i1)) | exact z2))),by dsimp only;omega⟩
   | cons z L =>
   obtain ⟨r,r1,r2,r3⟩:=zqo (most:=E.config.packet) (l:=z :: L) (by simp)
   obtain ⟨n,rfl⟩:∃ n',n=n'+1:=⟨n - 1,by rw [List.length_cons] at i2;omega⟩
   refine sT ?_
   (refine cL ?_;refine dLm (Pck.zyz (z :: L) E.config.packet ⟨by omega,i3⟩) ?_)
   refine hcut.meet PUnit (fun _=>hs 331 [(1,.ptr 1 0),(2,.ptr 2 0),(9,.ptr 96 0),(19,.own 920),(20,i64 1),(21,.p (.sl 11 ((z :: L).map Chunk.row))),(22,i64 (room1 E.config.packet (z :: L))),(289,.agg [.p (.sl 11 (a.map Chunk.row)),.p (.sl 11 (c.map Chunk.row))]),(290,i64 1)] [(1,scS E),(2,sc0),(96,.live (.cells 148 (pdC V (Sch.qs V.queue) (ints V.sched.had) (Sco.sents V.out) (pths V.paths) (ints V.mids) (ints V.fates) (.p (.sl 11 (a.map Chunk.row))) (.p (.sl 11 (c.map Chunk.row)))))),(920,rowPk acc)]) ?_ ?_
   . conv=>whnf
     exact yy41
   rintro ⟨⟩
   conv=>whnf
   (try (refine hcut.go ?_;conv=>whnf))
   refine zaa (by rw [List.length_map];omega) ?_;conv=>whnf
   refine zee (l:=z :: L) (by show 0+(room1 E.config.packet (z :: L) - 0).toNat <= (z :: L).length;omega) ?_
   conv=>whnf
   have hrt:(((z :: L).drop 0).take (room1 E.config.packet (z :: L) - 0).toNat)=(z :: L).take r:=by rw [List.drop_zero,r1];simp
   have pb:=Pck.zgm (((z :: L).drop 0).take (room1 E.config.packet (z :: L) - 0).toNat) E.config.packet (by rw [hrt];exact ⟨by rw [List.length_take];omega,fun c hc=>i3 c (List.mem_of_mem_take hc)⟩)
   generalize hK:Pck.pbytes (((z :: L).drop 0).take (room1 E.config.packet (z :: L) - 0).toNat) E.config.packet=K at pb
   rw [hrt] at hK
   obtain ⟨bts,er⟩:=K
   (refine cP ?_;refine dL pb ?_)
   refine sD ?_
   have hpn:packN E.config.packet 1 (n+1) (z :: L)=(if er=0 then [(⟨1,false,bts⟩:Packet)] else [])++packN E.config.packet 1 n ((z :: L).drop r):=by
    rw [packN,if_neg (by simp),pack1,r1,Int.toNat_natCast,hK]
   rw [hpn] at i1
   by_cases e:er=0
   case pos =>
    rw [if_pos e,<- List.append_assoc] at i1
    refine zac (beq_iff_eq.2 e) ?_;conv=>whnf
    refine zaa (c:=((acc.map Packet.row).length+1) * 40 <= 140737488355328) (by rw [List.length_map];omega) ?_;conv=>whnf
    have hr2:r=(room1 E.config.packet (z :: L)).toNat:=by rw [r1,Int.toNat_natCast]
    refine zaa (by rw [List.length_map];omega) ?_;conv=>whnf
    refine zdq (l:=z :: L) (by show (room1 E.config.packet (z :: L)).toNat+(((List.map Chunk.row (z :: L)).length:Int) - room1 E.config.packet (z :: L)).toNat=(z :: L).length;rw [List.length_map];omega) ?_
    conv=>whnf
    refine hQ2 _ _ ?_;conv=>whnf
    exact ⟨⟨(n,(z :: L).drop r,(acc++[⟨1,false,bts⟩])),i1,by dsimp only;rw [List.length_drop];omega,fun x hx=>i3 x (List.mem_of_mem_drop hx),by dsimp only;rw [List.length_drop];simp only [List.length_append,List.length_cons,List.length_nil] at i4 ⊢;omega⟩,(hle_X [(1,some 1),(2,some 2),(96,some 96),(920,some 321)] (by repeat' (first | exact z0 | refine z1 ?_ | refine ⟨?_,?_⟩ | ((exact zau (f:=Packet.row) rfl rfl)) | ((exact congrArg (fun k=>HV.p (.sl 11 (((z :: L).drop k).map Chunk.row))) hr2)) | exact z2))),by dsimp only;rw [List.length_drop];omega⟩
   case neg =>
    exact yy20
 (try (refine hcut.go ?_;conv=>whnf))
 refine hQ _ _ ?_;conv=>whnf
 rw [hP2]
 try rfl
end Snd
namespace Snd
open Ser
theorem yju (s:Sender) (m:Message) (hs:Fit s) (hd:m.data.length < 2 ^ 38) :
 FunOK Tryz.prog 32 [s.hv,m.hv] zad (.tup [(sendR s m).1.hv,i64 (sendR s m).2.1,i64 (sendR s m).2.2]) zad:=by
 obtain ⟨h1,h2,h3,h4,h5,h6,h7⟩:=hs
 refine zai mixed Tryz.func32 (by decide) ?_
 conv=>whnf
 (repeat' (first | (refine zbp ?_;conv=>whnf) | (refine zaa ?_ ?_;(first | kernel_rfl | decide);conv=>whnf) | (refine zap ?_ ?_;kernel_rfl;conv=>whnf) | (refine hcut.go ?_;conv=>whnf) | (refine zaf (fun h=>?_) (fun h=>?_) <;> conv=>whnf)))
 all_goals try simp only [Bool.not_eq_true',Bool.not_eq_false',beq_iff_eq,beq_eq_false_iff_ne,decide_eq_true_eq,decide_eq_false_iff_not,List.length_map] at *
 all_goals first
  | (rw [zgo (e:=3) (by simp only [zdl];(repeat' split) <;> first | rfl | omega) (by decide)];rfl)
  | (rw [zgo (e:=4) (by simp only [zdl];(repeat' split) <;> first | rfl | omega) (by decide)];rfl)
  | (rw [zgo (e:=7) (by simp only [zdl];(repeat' split) <;> first | rfl | omega) (by decide)];rfl)
  | rw [zlr (by simp only [zdl];(repeat' split) <;> first | rfl | omega)]
 refine zaa (c:=(([]:List (List PV)).length+s.queue.length) * 96 <= 140737488355328) (by simp;omega) ?_;conv=>whnf
 refine zaa (c:=((([]:List (List PV))++s.queue.map Queued.row).length+1) * 96 <= 140737488355328) (by simp;omega) ?_;conv=>whnf
 refine sD ?_
 refine zaa (c:=(([]:List (List PV)).length+(s.fates.map fun n=>[pi n]).length) * 8 <= 140737488355328) (by simp;omega) ?_;conv=>whnf
 refine zaa (c:=((([]:List (List PV))++s.fates.map fun n=>[pi n]).length+1) * 8 <= 140737488355328) (by simp;omega) ?_;conv=>whnf
 have hq:(([]:List (List PV))++s.queue.map Queued.row)++[(⟨s.fates.length,-1,s.clock,0,0,m⟩:Queued).row]=(sendS s m).queue.map Queued.row:=by simp [sendS]
 have hf:(([]:List (List PV))++s.fates.map fun n=>[pi n])++[[pi 1]]=(sendS s m).fates.map fun n=>[pi n]:=by simp [sendS]
 show HV.tup [.agg (sndC s (.p (.sl 10 ((([]:List (List PV))++s.queue.map Queued.row)++[(⟨s.fates.length,-1,s.clock,0,0,m⟩:Queued).row]))) (ints s.sched.had) (Sco.sents s.out) (pths s.paths) (ints s.mids) (.p (.sl 1 ((([]:List (List PV))++s.fates.map fun n=>[pi n])++[[pi 1]])))),i64 s.fates.length,i64 0]=_
 rw [hq,hf];rfl
def wrL (c:Config):List (Int × Int × Int):=[(c.streams,1,4),(c.paths,1,2),(c.part,1,16),(c.packet,40,120),(c.waiting,1,12),(c.first,0,65535)]
abbrev wrR (x:Int × Int × Int):List PV:=[pi x.1,pi x.2.1,pi x.2.2]
theorem yst {c:Config} {x:Int × Int × Int} (hx:x ∈ wrL c) (h:x.1 < x.2.1 \/ x.1 > x.2.2):wrgS c=3:=by
 have:c.streams < 1 \/ c.streams > 4 \/ c.paths < 1 \/ c.paths > 2 \/ c.part < 1 \/ c.part > 16 \/ c.packet < 40 \/ c.packet > 120 \/ c.waiting < 1 \/ c.waiting > 12 \/ c.first < 0 \/ c.first >= 65536:=by
  simp only [wrL,List.mem_cons,List.not_mem_nil,or_false] at hx
  rcases hx with rfl | rfl | rfl | rfl | rfl | rfl <;> dsimp only at h <;> omega
 unfold wrgS;rw [if_pos this]
theorem wr_ok {c:Config} (h:∀ x ∈ wrL c,¬ (x.1 < x.2.1 \/ x.1 > x.2.2)):wrgS c=if c.turns < 1 \/ c.turns > 5 then 1 else 0:=by
 have h1:=h (c.streams,1,4) (by simp [wrL])
 have h2:=h (c.paths,1,2) (by simp [wrL])
 have h3:=h (c.part,1,16) (by simp [wrL])
 have h4:=h (c.packet,40,120) (by simp [wrL])
 have h5:=h (c.waiting,1,12) (by simp [wrL])
 have h6:=h (c.first,0,65535) (by simp [wrL])
 dsimp only at h1 h2 h3 h4 h5 h6
 unfold wrgS;rw [if_neg (by omega)]
theorem zex (c:Config):FunOK Tryz.prog 59 [c.hv] zad (i64 (wrgS c)) zad:=by
 refine zai mixed Tryz.func59 (by decide) ?_
 conv=>whnf
 refine ⟨{ x:List (Int × Int × Int) × List (Int × Int × Int) // wrL c=x.1++x.2 /\ ∀ y ∈ x.1,¬ (y.1 < y.2.1 \/ y.1 > y.2.2) },fun | ⟨(A,B),_⟩=>hs 50 [(1,.ptr 1 0),(23,.own 900),(24,i64 (wrL c).length),(25,i64 A.length)] [(1,.live (.cells 24 c.cells)),(900,.live (.row 103 3 ((wrL c).map wrR)))],fun x=>x.1.2.length,⟨([],wrL c),rfl,by simp⟩,?_,?_⟩
 . exact (hle_Q [(1,some 1),(900,some 23)])
 rintro ⟨⟨A,B⟩,h,hA⟩
 dsimp only at h hA
 conv=>whnf
 cases B with
 | cons x B =>
  have hz:=zat h
  have hx:=zef h
  have h6:(wrL c).length=6:=rfl
  refine sT ?_
  refine sO ?_
  refine zah (f:=wrR) h rfl ?_;conv=>whnf
  (try (refine hcut.go ?_;conv=>whnf))
  refine ⟨0,rfl,by decide,?_⟩;conv=>whnf
  refine ⟨1,rfl,by decide,?_⟩;conv=>whnf
  by_cases c1:x.1 < x.2.1
  case pos =>
   rw [yst hx (.inl c1)]
   refine zac (decide_eq_true c1) ?_;conv=>whnf
   try rfl
  refine zab (decide_eq_false c1) ?_;conv=>whnf
  refine ⟨0,rfl,by decide,?_⟩;conv=>whnf
  refine ⟨2,rfl,by decide,?_⟩;conv=>whnf
  by_cases c2:x.1 > x.2.2
  case pos =>
   rw [yst hx (.inr c2)]
   refine zac (decide_eq_true c2) ?_;conv=>whnf
   try rfl
  refine zab (decide_eq_false c2) ?_;conv=>whnf
  (try (refine hcut.go ?_;conv=>whnf))
  refine sF ?_
  exact ⟨⟨(A++[x],B),zag h,fun y hy=>by rcases List.mem_append.1 hy with hy | hy;exact hA y hy;rw [List.mem_singleton] at hy;subst hy;exact fun h=>h.elim c1 c2⟩,(hle_Q [(1,some 1),(900,some 900)]),by simp⟩
 | nil =>
  have hz:=zaz h
  rw [List.append_nil] at h
  rw [<- h] at hA
  rw [wr_ok hA]
  refine sN ?_
  by_cases c1:c.turns < 1
  case pos =>
   rw [if_pos (.inl c1)]
   refine zac (decide_eq_true c1) ?_;conv=>whnf
   try rfl
  refine zab (decide_eq_false c1) ?_;conv=>whnf
  by_cases c2:c.turns > 5
  case pos =>
   rw [if_pos (.inr c2)]
   refine zac (decide_eq_true c2) ?_;conv=>whnf
   try rfl
  rw [if_neg (fun h=>h.elim c1 c2)]
  refine zab (decide_eq_false c2) ?_;conv=>whnf
  try rfl
theorem yjv (c:Config):FunOK Tryz.prog 27 [c.hv] zad (.tup [(newP c).1.hv,i64 (newP c).2]) zad:=by
 refine zai mixed Tryz.func27 (by decide) ?_
 conv=>whnf
 (refine cP ?_;refine dL (zex c) ?_)
 by_cases c0:wrgS c=0
 case neg =>
  rw [newP,if_neg c0]
  refine zac (bne_iff_ne.2 c0) ?_;conv=>whnf
  try rfl
 rw [newP,if_pos c0]
 refine zab (by simpa using c0) ?_;conv=>whnf
 (try (refine hcut.go ?_;conv=>whnf))
 obtain ⟨b1,b2,b3,b4,b5,b6,b7,b8,b9,b10,b11,b12,-⟩:=zca c0
 refine zam (z:=c.first - 1) (W_fit (by omega) (by omega)) ?_;conv=>whnf
 refine zam (z:=c.first - 1) (W_fit (by omega) (by omega)) ?_;conv=>whnf
 refine zam (z:=2 * c.streams) (W_fit (by omega) (by omega)) ?_;conv=>whnf
 refine zaa (c:=0 <= 2 * c.streams /\ 2 * c.streams=2 * c.streams /\ 2 * c.streams * (8:Nat) <= 140737488355328) ⟨by omega,rfl,by omega⟩ ?_;conv=>whnf
 refine zam (z:=c.streams - 1) (W_fit (by omega) (by omega)) ?_;conv=>whnf
 refine zaa (c:=0 <= c.streams /\ c.streams=c.streams /\ c.streams * (8:Nat) <= 140737488355328) ⟨by omega,rfl,by omega⟩ ?_;conv=>whnf
 refine sD ?_
 have hsl:c.streams - 1=(Sch.new c.streams).last:=(W_fit (by omega) (by omega)).symm
 refine ⟨{ i:Nat // (i:Int) <= c.paths },fun | ⟨i,_⟩=>hs 51 [(1,.ptr 1 0),(2,.ptr 2 0),(5,.ptr 5 0),(34,i64 c.paths),(35,i64 i)] [(1,.live (.cells 24 [i64 c.streams,i64 c.part,i64 c.packet,i64 c.paths,i64 (c).turns,i64 c.waiting,i64 c.first])),(2,sc0),(5,.live (.cells 32 (sndC (newS c) hnil (.own 901) hnil (.own 900) (.own 902) hnil))),(900,rowW (List.replicate i (Paths.new c.part))),(901,rowT (Sch.new c.streams).had),(902,rowT (List.replicate (2 * c.streams).toNat 0))],fun i=>c.paths.toNat - i.1,⟨0,by omega⟩,?_,?_⟩
 . exact (hle_X [(1,some 1),(2,some 2),(5,some 5),(900,none),(901,some 30),(902,some 24)] (by repeat' (first | exact z0 | refine z1 ?_ | refine ⟨?_,?_⟩ | ((exact zan (by rw [List.map_replicate];rfl))) | ((refine zan ?_;rw [show (Sch.new c.streams).had=List.replicate (max c.streams 0).toNat 0 from rfl,List.map_replicate,show max c.streams 0=c.streams by omega];rfl)) | ((exact congrArg (fun z=>HSlot.live (.cells 32 (sndC { newS c with sched:=⟨z,-1,[]⟩ } hnil (.own 30) hnil hnil (.own 24) hnil))) hsl)) | exact z2)))
 rintro ⟨i,k1⟩
 conv=>whnf
 by_cases hi:(i:Int) < c.paths
 case pos =>
  refine sT ?_
  refine sR ?_
  refine sR ?_
  refine zaa (c:=(((List.replicate i (Paths.new c.part)).map Path.row).length+1) * 56 <= 140737488355328) (by simp;omega) ?_;conv=>whnf
  refine sF ?_
  exact ⟨⟨i+1,by omega⟩,(hle_X [(1,some 1),(2,some 2),(5,some 5),(900,some 47),(901,some 901),(902,some 902)] (by repeat' (first | exact z0 | refine z1 ?_ | refine ⟨?_,?_⟩ | ((exact zau (f:=Path.row) List.replicate_succ' rfl)) | exact z2))),by dsimp only;omega⟩
 case neg =>
  have hin:c.paths.toNat=i:=by omega
  refine sN ?_
  rw [show (newS c)={ newS c with paths:=List.replicate i (Paths.new c.part) } by rw [<- hin];rfl]
  try rfl
end Snd
namespace Snd
open Ser
theorem PF.down {j i:Nat} {s:Sender} (h:PF (j+i) s):PF j s:=⟨h.g,h.some,h.part,h.part2,h.msg,h.chunk,Nat.lt_of_le_of_lt (Nat.add_le_add_left (Nat.mul_le_mul_right _ (Nat.le_add_right j i)) _) h.bytes,h.few⟩
theorem PO.down {g:Config} {j i n k:Nat} {p:Pump} (h:PO g (j+i) n k p):PO g j n k p:=⟨h.pf.down,h.paths,h.outs,h.config,h.most⟩
theorem yhh:∀ (i:Nat) {g:Config} {j n k:Nat} {p:Pump},PO g (j+i) n k p -> PO g j n (k+i) (nexts i p)
 | 0,_,_,_,_,_,h=>h
 | i+1,g,j,n,k,p,h=>by
  unfold nexts
  rcases ycz (j:=j+i) h with ⟨-,e⟩ | ⟨q,-,e,-,-,h2⟩
  . rw [e];exact h.down.mono (by omega)
  . rw [e]
    have:=yhh i h2
    exact this.mono (by omega)
theorem ybi (most path:Int):∀ (n:Nat) (l:List Chunk),(packN most path n l).length <= n
 | 0,l=>by simp [packN]
 | n+1,l=>by
  have:=ybi most path n (l.drop (room1 most l).toNat)
  have h1:(pack1 most path l).length <= 1:=by unfold pack1;split <;> simp
  unfold packN
  split
  . simp
  . rw [List.length_append];omega
theorem zny (most:Int) {k:Nat}:∀ (ls:List (List Chunk)) (i:Nat),(∀ l ∈ ls,l.length <= k) -> (zbb most i ls).length <= k * ls.length
 | [],i,_=>by simp [zbb]
 | l :: ls,i,h=>by
  have h1:=ybi most i l.length l
  have h2:=zny most ls (i+1) fun x hx=>h x (by simp [hx])
  have h3:=h l (by simp)
  unfold zbb
  rw [List.length_append,List.length_cons,Nat.mul_add];omega
theorem zfb {N:Nat} {s:Sender} (h:SI N s):(pump s).2.length < 2 ^ 62:=by
 have e1:=zwa (zjp (zlq h.pf))
 have e2:=yhh (j:=1) 61 e1
 have h1:=(zjp (zlq h.pf)).pf.few
 have h2:=h.npaths
 have h3:=zca h.cfg
 have h4:=zny s.config.packet (pumpP s).out 0 fun l hl=>(e2.most l hl).1
 have h5:(pumpP s).out.length=s.paths.length:=e2.outs
 rw [h5] at h4
 have h6:s.paths.length <= 2:=by omega
 show (zbb s.config.packet 0 (pumpP s).out).length < _
 refine Nat.lt_of_le_of_lt h4 (Nat.lt_of_le_of_lt (Nat.mul_le_mul_left _ h6) ?_)
 omega
end Snd
namespace Ln
open Ser
def noR:Receiver:=⟨⟨0,0,0,0,0,0,0⟩,0,[],[],[],[]⟩
def noL:Line:=⟨Snd.noS,noR,[]⟩
def newLP (c:Config):Line × Int:=if Snd.wrgS c=0 then (newL c,0) else (noL,Snd.wrgS c)
theorem yrx (l:List Packet) (i j:Nat) (hij:i <= j) (hj:j <= l.length) (hb:l.length < 2 ^ 40) :
 FunOK Tryz.prog 117 [.osl 1000 3 0 (l.map Packet.row).length,i64 i,i64 j] (lk .free [(1000,.live (.row 110 3 (l.map Packet.row)))])
  (.osl 1000 3 0 (l.length - (j - i))) (lk .free [(1000,.live (.row 110 3 ((l.take i++l.drop j).map Packet.row++List.replicate (j - i) ([pi 0,pb false,.v (.slice none 0 0)]))))]):=by
 refine zal mixed Tryz.func117 (by decide) [1000] zba ?_
 have hlr:(l.map Packet.row).length=l.length:=by simp
 conv=>whnf
 refine sO ?_
 by_cases h:i=j
 . subst h
   refine sT ?_
   refine zak [(1000,some 1000)] rfl rfl ⟨rfl,trivial⟩ rfl ?_ ⟨⟨rfl,.inl ⟨1000,rfl,?_⟩⟩,trivial⟩
   . show HV.osl 1000 3 0 (l.length - (i - i))=HV.osl 1000 3 0 (l.map Packet.row).length
     rw [hlr,Nat.sub_self];rfl
   . show HSlot.live (.row _ 3 (l.map Packet.row))=HSlot.live (.row _ 3 _)
     exact yy127
 . refine sN ?_
   refine sO ?_
   refine sO ?_
   refine ⟨_,rfl,?_,?_⟩
   . rw [hlr];omega
   conv=>whnf
   refine zaa (by simp;omega) ?_
   conv=>whnf
   refine zap ?_ ?_
   . kernel_rfl
   conv=>whnf
   refine zaa (by simp [splice];omega) ?_
   conv=>whnf
   refine zaa (by simp [splice];omega) ?_
   conv=>whnf
   refine zak [(1000,some 1000)] rfl rfl ⟨rfl,trivial⟩ rfl ?_ ⟨⟨rfl,.inl ⟨1000,rfl,?_⟩⟩,trivial⟩
   . show HV.osl 1000 3 0 _=HV.osl 1000 3 0 _
     congr 1
     simp;omega
   . refine (congrArg (fun r=>HSlot.live (.row _ 3 r)) (zvw (rows:=l.map Packet.row) (i:=i) (j:=j) (z:=([pi 0,pb false,.v (.slice none 0 0)])) hij (by rw [hlr];exact hj) ?_ ?_ ?_ ?_ ?_)).trans ?_
     . simp <;> omega
     . simp <;> omega
     . simp <;> omega
     . simp;omega
     . simp;omega
     . rw [List.map_append,List.map_take,List.map_drop];rfl
theorem yvo (l:List Packet) (i j:Nat) (hij:i <= j) (hj:j <= l.length) (hb:l.length < 2 ^ 40) :
 FunOK Tryz.prog 117 [.own 1000,i64 i,i64 j] (lk .free [(1000,.live (.row 110 3 (l.map Packet.row)))])
  (.own 0) (lk .free [(1000,.dead),(0,.live (.row 110 3 ((l.take i++l.drop j).map Packet.row)))]):=by
 have h:=zgx (d:=0) (L:=[]) (rows:=(l.take i++l.drop j).map Packet.row++List.replicate (j - i) ([pi 0,pb false,.v (.slice none 0 0)])) (zpv (yrx l i j hij hj hb)) (.inl rfl) (by simp;omega) rfl (by decide)
 rwa [List.take_left' (by simp;omega)] at h
theorem yjw (a b:List Packet) (x:Packet) (i j:Int) (hi:i=a.length) (hj:j=a.length+1) (hb:(a++x :: b).length < 2 ^ 40) :
 FunOK Tryz.prog 117 [.own 1000,i64 i,i64 j] (lk .free [(1000,.live (.row 110 3 ((a++x :: b).map Packet.row)))])
  (.own 0) (lk .free [(1000,.dead),(0,.live (.row 110 3 ((a++b).map Packet.row)))]):=by
 subst hi hj
 have h:=yvo (a++x :: b) a.length (a.length+1) (by omega) (by simp) hb
 rwa [List.take_left,show (a++x :: b).drop (a.length+1)=b by rw [<- List.drop_drop,List.drop_left];rfl,Int.natCast_add] at h
theorem ybj {inp out:List Packet} (a b:List Packet) (x:Packet) (i j:Int) (h1:inp=a++x :: b) (h2:out=a++b) (hi:i=a.length) (hj:j=a.length+1) (hb:inp.length < 2 ^ 40) :
 FunOK Tryz.prog 117 [.own 1000,i64 i,i64 j] (lk .free [(1000,.live (.row 110 3 (inp.map Packet.row)))])
  (.own 0) (lk .free [(1000,.dead),(0,.live (.row 110 3 (out.map Packet.row)))]):=by
 subst h1 h2;exact yjw a b x i j hi hj hb
theorem yry {N M:Nat} (l:Line) (x:Step) (h:LI N M l) (hN:N+1 <= 2 ^ 20) (hM:M+120 <= 2000000) (hx:x.message.data.length < 2 ^ 38) :
 FunOK Tryz.prog 65 [l.hv,x.hv] zad (.tup [.agg (lnC (doS l x).1.sender (doS l x).1.receiver (.own 0)),(doS l x).2.hv]) (lk .free [(0,rowPk (doS l x).1.way)]):=by
 have hway:=h.way
 have hby:=h.bytes
 generalize hT:doS l x=T
 rw [doS] at hT
 refine zal mixed Tryz.func65 (by decide) [] (fun _=>.inl rfl) ?_
 conv=>whnf
 (refine zao [(0,20)]  ?_;(conv=>whnf);refine dO (yaz l h.snd.fit (h.rcv.fit h.small) (by omega) (fun p hp=>by have:=hby p hp;omega)) ?_)
 by_cases c1:x.kind=1
 case pos =>
  rw [if_pos c1] at hT
  rw [show (x.kind == 1)=true from beq_iff_eq.2 c1]
  conv=>whnf
  have ps:=Snd.ymr l.sender x.message h.snd.fit hx
  by_cases e1:Snd.zdl l.sender x.message=0
  case pos =>
   rw [if_pos e1] at hT
   subst hT
   rw [Snd.zlr e1] at ps
   (refine cP ?_;refine dL ps ?_)
   repeat (refine hcut.go ?_;conv=>whnf)
   have hy:=(show LI (N+1) M { l with sender:=Snd.sendS l.sender x.message } from ⟨Snd.zwd h.snd e1 hN,h.rcv,h.small,h.way,h.bytes⟩)
   have hyw:=Snd.zca hy.snd.cfg
   have hyp:=hy.snd.npaths
   (refine cP ?_;refine dL (Snd.ziy (({ l with sender:=Snd.sendS l.sender x.message }:Line)).sender hy.snd.pf (by unfold inI;omega) (by omega)) ?_)
   repeat (refine hcut.go ?_;conv=>whnf)
   (refine zae [] [(1000,6),(1001,20)] [(0,950)] ?_;(conv=>whnf);refine dG (zia (Snd.pump (({ l with sender:=Snd.sendS l.sender x.message }:Line)).sender).1 (({ l with sender:=Snd.sendS l.sender x.message }:Line)).receiver (({ l with sender:=Snd.sendS l.sender x.message }:Line)).way (Snd.pump (({ l with sender:=Snd.sendS l.sender x.message }:Line)).sender).2 (Snd.zfb hy.snd)) ?_ ⟨rfl,rfl,rfl,⟨⟨rfl,_,rfl,.inl ⟨rfl,rfl⟩⟩,⟨⟨rfl,_,rfl,.inl ⟨rfl,rfl⟩⟩,trivial⟩⟩,⟨⟨rfl,rfl⟩,trivial⟩,rfl,rfl,rfl⟩)
   exact yy55
  case neg =>
   rw [if_neg e1] at hT
   subst hT
   rw [Snd.zgo rfl e1] at ps
   (refine cP ?_;refine dL ps ?_)
   rw [show (Snd.zdl l.sender x.message != 0)=true from bne_iff_ne.2 e1]
   conv=>whnf
   exact yy31
 case neg =>
  rw [if_neg c1] at hT
  rw [show (x.kind == 1)=false from beq_eq_false_iff_ne.2 c1]
  conv=>whnf
  repeat (refine hcut.go ?_;conv=>whnf)
  by_cases c2:x.kind=2 \/ x.kind=3 \/ x.kind=4
  case neg =>
   rw [if_neg c2] at hT
   have c2:=not_or.1 c2
   have c3:=not_or.1 c2.2
   rw [show (x.kind == 2)=false from beq_eq_false_iff_ne.2 c2.1]
   conv=>whnf
   repeat (refine hcut.go ?_;conv=>whnf)
   rw [show (x.kind == 3)=false from beq_eq_false_iff_ne.2 c3.1]
   conv=>whnf
   repeat (refine hcut.go ?_;conv=>whnf)
   rw [show (x.kind == 4)=false from beq_eq_false_iff_ne.2 c3.2]
   conv=>whnf
   repeat (refine hcut.go ?_;conv=>whnf)
   by_cases c5:x.kind=5
   case pos =>
    rw [if_pos c5] at hT
    subst hT
    rw [show (x.kind == 5)=true from beq_iff_eq.2 c5]
    conv=>whnf
    repeat (refine hcut.go ?_;conv=>whnf)
    (refine cP ?_;refine dL (Snd.yms l.sender h.snd.fit) ?_)
    repeat (refine hcut.go ?_;conv=>whnf)
    have hy:=(show LI N M { l with sender:=Snd.tick l.sender } from ⟨Snd.zwf h.snd,h.rcv,h.small,h.way,h.bytes⟩)
    have hyw:=Snd.zca hy.snd.cfg
    have hyp:=hy.snd.npaths
    (refine cP ?_;refine dL (Snd.ziy (({ l with sender:=Snd.tick l.sender }:Line)).sender hy.snd.pf (by unfold inI;omega) (by omega)) ?_)
    repeat (refine hcut.go ?_;conv=>whnf)
    (refine zae [] [(1000,6),(1001,20)] [(0,950)] ?_;(conv=>whnf);refine dG (zia (Snd.pump (({ l with sender:=Snd.tick l.sender }:Line)).sender).1 (({ l with sender:=Snd.tick l.sender }:Line)).receiver (({ l with sender:=Snd.tick l.sender }:Line)).way (Snd.pump (({ l with sender:=Snd.tick l.sender }:Line)).sender).2 (Snd.zfb hy.snd)) ?_ ⟨rfl,rfl,rfl,⟨⟨rfl,_,rfl,.inl ⟨rfl,rfl⟩⟩,⟨⟨rfl,_,rfl,.inl ⟨rfl,rfl⟩⟩,trivial⟩⟩,⟨⟨rfl,rfl⟩,trivial⟩,rfl,rfl,rfl⟩)
    exact yy55
   case neg =>
    rw [if_neg c5] at hT
    subst hT
    rw [show (x.kind == 5)=false from beq_eq_false_iff_ne.2 c5]
    conv=>whnf
    exact yy31
  case pos =>
   rw [if_pos c2] at hT
   have c6:x.kind=2 \/ x.kind ≠ 2 /\ (x.kind=3 \/ x.kind ≠ 3 /\ x.kind=4):=by omega
   rcases c6 with c6 | ⟨c8,c6 | ⟨c7,c6⟩⟩
   . rw [show (x.kind == 2)=true from beq_iff_eq.2 c6]
     conv=>whnf
     repeat (refine hcut.go ?_;conv=>whnf)
     by_cases n0:x.n < 0
     case pos =>
      rw [if_pos n0] at hT
      subst hT
      rw [show decide (x.n < 0)=true from decide_eq_true n0]
      conv=>whnf
      exact yy31
     case neg =>
     rw [if_neg n0] at hT
     rw [show decide (x.n < 0)=false from decide_eq_false n0]
     conv=>whnf
     cases hp:l.way[x.n.toNat]? with
     | none =>
      rw [hp] at hT
      dsimp only at hT
      subst hT
      have hge:=List.getElem?_eq_none_iff.1 hp
      rw [show decide (x.n >= ((l.way.map Packet.row).length:Int))=true from decide_eq_true (by rw [List.length_map];omega)]
      conv=>whnf
      exact yy31
     | some p =>
     rw [hp] at hT
     dsimp only at hT
     have hlt:=(List.getElem?_eq_some_iff.1 hp).1
     have hpb:=hby p (List.mem_of_getElem? hp)
     have hsp:l.way=l.way.take x.n.toNat++p :: l.way.drop (x.n.toNat+1):=by
      exact yy103
     have hsl:(l.way.take x.n.toNat).length=x.n.toNat:=by simp;omega
     have her:l.way.eraseIdx x.n.toNat=l.way.take x.n.toNat++l.way.drop (x.n.toNat+1):=List.eraseIdx_eq_take_drop_succ _ _
     rw [show decide (x.n >= ((l.way.map Packet.row).length:Int))=false from decide_eq_false (by rw [List.length_map];omega)]
     conv=>whnf
     repeat (refine hcut.go ?_;conv=>whnf)
     refine zaa ⟨by omega,by rw [List.length_map];omega⟩ ?_;conv=>whnf
     refine Snd.zaj hp (by omega) ?_;conv=>whnf
     rw [if_neg (by omega),if_pos c6] at hT
     rw [show (x.kind == 4)=false from beq_eq_false_iff_ne.2 (by omega)]
     conv=>whnf
     repeat (refine hcut.go ?_;conv=>whnf)
     refine zam (z:=x.n+1) (W_fit (by omega) (by omega)) ?_;conv=>whnf
     (refine zae [] [(1000,20)] [(0,930)] ?_;(conv=>whnf);refine dG (ybj (l.way.take x.n.toNat) (l.way.drop (x.n.toNat+1)) p x.n (x.n+1) hsp rfl (by omega) (by omega) (by omega)) ?_)
     rw [show (x.kind == 2)=true from beq_iff_eq.2 c6]
     conv=>whnf
     subst hT
     have hli:LI N M { l with way:=l.way.eraseIdx x.n.toNat }:=⟨h.snd,h.rcv,h.small,by show (l.way.eraseIdx _).length <= 40;rw [List.length_eraseIdx];split <;> omega,fun q hq=>hby q (List.mem_of_mem_eraseIdx hq)⟩
     (refine zae [] [(1000,6),(1001,930)] [(0,940)] ?_;(conv=>whnf);refine dG (yjo { l with way:=l.way.eraseIdx x.n.toNat } p hli hM hpb) ?_ ⟨rfl,rfl,rfl,⟨⟨rfl,_,rfl,.inl ⟨rfl,rfl⟩⟩,⟨⟨rfl,_,rfl,.inl ⟨rfl,(zan (by rw [her]))⟩⟩,trivial⟩⟩,⟨⟨rfl,rfl⟩,trivial⟩,rfl,rfl,rfl⟩)
     repeat (refine hcut.go ?_;conv=>whnf)
     have hy:=(zxa hli hpb hM)
     have hyw:=Snd.zca hy.snd.cfg
     have hyp:=hy.snd.npaths
     (refine cP ?_;refine dL (Snd.ziy ((come { l with way:=l.way.eraseIdx x.n.toNat } p)).sender hy.snd.pf (by unfold inI;omega) (by omega)) ?_)
     repeat (refine hcut.go ?_;conv=>whnf)
     (refine zae [] [(1000,6),(1001,940)] [(0,950)] ?_;(conv=>whnf);refine dG (zia (Snd.pump ((come { l with way:=l.way.eraseIdx x.n.toNat } p)).sender).1 ((come { l with way:=l.way.eraseIdx x.n.toNat } p)).receiver ((come { l with way:=l.way.eraseIdx x.n.toNat } p)).way (Snd.pump ((come { l with way:=l.way.eraseIdx x.n.toNat } p)).sender).2 (Snd.zfb hy.snd)) ?_ ⟨rfl,rfl,rfl,⟨⟨rfl,_,rfl,.inl ⟨rfl,rfl⟩⟩,⟨⟨rfl,_,rfl,.inl ⟨rfl,rfl⟩⟩,trivial⟩⟩,⟨⟨rfl,rfl⟩,trivial⟩,rfl,rfl,rfl⟩)
     exact yy55
   . rw [show (x.kind == 2)=false from beq_eq_false_iff_ne.2 c8]
     conv=>whnf
     repeat (refine hcut.go ?_;conv=>whnf)
     rw [show (x.kind == 3)=true from beq_iff_eq.2 c6]
     conv=>whnf
     repeat (refine hcut.go ?_;conv=>whnf)
     by_cases n0:x.n < 0
     case pos =>
      rw [if_pos n0] at hT
      subst hT
      rw [show decide (x.n < 0)=true from decide_eq_true n0]
      conv=>whnf
      exact yy31
     case neg =>
     rw [if_neg n0] at hT
     rw [show decide (x.n < 0)=false from decide_eq_false n0]
     conv=>whnf
     cases hp:l.way[x.n.toNat]? with
     | none =>
      rw [hp] at hT
      dsimp only at hT
      subst hT
      have hge:=List.getElem?_eq_none_iff.1 hp
      rw [show decide (x.n >= ((l.way.map Packet.row).length:Int))=true from decide_eq_true (by rw [List.length_map];omega)]
      conv=>whnf
      exact yy31
     | some p =>
     rw [hp] at hT
     dsimp only at hT
     have hlt:=(List.getElem?_eq_some_iff.1 hp).1
     have hpb:=hby p (List.mem_of_getElem? hp)
     have hsp:l.way=l.way.take x.n.toNat++p :: l.way.drop (x.n.toNat+1):=by
      exact yy103
     have hsl:(l.way.take x.n.toNat).length=x.n.toNat:=by simp;omega
     have her:l.way.eraseIdx x.n.toNat=l.way.take x.n.toNat++l.way.drop (x.n.toNat+1):=List.eraseIdx_eq_take_drop_succ _ _
     rw [show decide (x.n >= ((l.way.map Packet.row).length:Int))=false from decide_eq_false (by rw [List.length_map];omega)]
     conv=>whnf
     repeat (refine hcut.go ?_;conv=>whnf)
     refine zaa ⟨by omega,by rw [List.length_map];omega⟩ ?_;conv=>whnf
     refine Snd.zaj hp (by omega) ?_;conv=>whnf
     rw [if_neg (by omega),if_neg c8] at hT
     rw [show (x.kind == 4)=false from beq_eq_false_iff_ne.2 (by omega)]
     conv=>whnf
     repeat (refine hcut.go ?_;conv=>whnf)
     refine zam (z:=x.n+1) (W_fit (by omega) (by omega)) ?_;conv=>whnf
     (refine zae [] [(1000,20)] [(0,930)] ?_;(conv=>whnf);refine dG (ybj (l.way.take x.n.toNat) (l.way.drop (x.n.toNat+1)) p x.n (x.n+1) hsp rfl (by omega) (by omega) (by omega)) ?_)
     rw [show (x.kind == 2)=false from beq_eq_false_iff_ne.2 c8]
     conv=>whnf
     repeat (refine hcut.go ?_;conv=>whnf)
     subst hT
     have hli:LI N M { l with way:=l.way.eraseIdx x.n.toNat }:=⟨h.snd,h.rcv,h.small,by show (l.way.eraseIdx _).length <= 40;rw [List.length_eraseIdx];split <;> omega,fun q hq=>hby q (List.mem_of_mem_eraseIdx hq)⟩
     have hy:=hli
     have hyw:=Snd.zca hy.snd.cfg
     have hyp:=hy.snd.npaths
     (refine cP ?_;refine dL (Snd.ziy (({ l with way:=l.way.eraseIdx x.n.toNat }:Line)).sender hy.snd.pf (by unfold inI;omega) (by omega)) ?_)
     repeat (refine hcut.go ?_;conv=>whnf)
     (refine zae [] [(1000,6),(1001,930)] [(0,950)] ?_;(conv=>whnf);refine dG (zia (Snd.pump (({ l with way:=l.way.eraseIdx x.n.toNat }:Line)).sender).1 (({ l with way:=l.way.eraseIdx x.n.toNat }:Line)).receiver (({ l with way:=l.way.eraseIdx x.n.toNat }:Line)).way (Snd.pump (({ l with way:=l.way.eraseIdx x.n.toNat }:Line)).sender).2 (Snd.zfb hy.snd)) ?_ ⟨rfl,rfl,rfl,⟨⟨rfl,_,rfl,.inl ⟨rfl,rfl⟩⟩,⟨⟨rfl,_,rfl,.inl ⟨rfl,(zan (by rw [her]))⟩⟩,trivial⟩⟩,⟨⟨rfl,rfl⟩,trivial⟩,rfl,rfl,rfl⟩)
     exact yy55
   . rw [show (x.kind == 2)=false from beq_eq_false_iff_ne.2 c8]
     conv=>whnf
     repeat (refine hcut.go ?_;conv=>whnf)
     rw [show (x.kind == 3)=false from beq_eq_false_iff_ne.2 c7]
     conv=>whnf
     repeat (refine hcut.go ?_;conv=>whnf)
     rw [show (x.kind == 4)=true from beq_iff_eq.2 c6]
     conv=>whnf
     repeat (refine hcut.go ?_;conv=>whnf)
     by_cases n0:x.n < 0
     case pos =>
      rw [if_pos n0] at hT
      subst hT
      rw [show decide (x.n < 0)=true from decide_eq_true n0]
      conv=>whnf
      exact yy31
     case neg =>
     rw [if_neg n0] at hT
     rw [show decide (x.n < 0)=false from decide_eq_false n0]
     conv=>whnf
     cases hp:l.way[x.n.toNat]? with
     | none =>
      rw [hp] at hT
      dsimp only at hT
      subst hT
      have hge:=List.getElem?_eq_none_iff.1 hp
      rw [show decide (x.n >= ((l.way.map Packet.row).length:Int))=true from decide_eq_true (by rw [List.length_map];omega)]
      conv=>whnf
      exact yy31
     | some p =>
     rw [hp] at hT
     dsimp only at hT
     have hlt:=(List.getElem?_eq_some_iff.1 hp).1
     have hpb:=hby p (List.mem_of_getElem? hp)
     have hsp:l.way=l.way.take x.n.toNat++p :: l.way.drop (x.n.toNat+1):=by
      exact yy103
     have hsl:(l.way.take x.n.toNat).length=x.n.toNat:=by simp;omega
     have her:l.way.eraseIdx x.n.toNat=l.way.take x.n.toNat++l.way.drop (x.n.toNat+1):=List.eraseIdx_eq_take_drop_succ _ _
     rw [show decide (x.n >= ((l.way.map Packet.row).length:Int))=false from decide_eq_false (by rw [List.length_map];omega)]
     conv=>whnf
     repeat (refine hcut.go ?_;conv=>whnf)
     refine zaa ⟨by omega,by rw [List.length_map];omega⟩ ?_;conv=>whnf
     refine Snd.zaj hp (by omega) ?_;conv=>whnf
     rw [if_pos c6] at hT
     rw [show (x.kind == 4)=true from beq_iff_eq.2 c6]
     conv=>whnf
     (refine zao [(0,935)]  ?_;(conv=>whnf);refine dO (yhb [p] (by simp) (fun q hq=>by rw [List.mem_singleton] at hq;subst hq;omega)) ?_)
     (refine zae [false,true] [(1000,6),(1001,20)] [(0,940)] ?_;(conv=>whnf);refine dG (zia l.sender l.receiver l.way [p] (by simp)) ?_)
     repeat (refine hcut.go ?_;conv=>whnf)
     subst hT
     have hput:LI N M { l with way:=putW l.way [p] }:=yay h fun q hq=>by rw [List.mem_singleton] at hq;subst hq;exact hpb
     have hy:=hput
     have hyw:=Snd.zca hy.snd.cfg
     have hyp:=hy.snd.npaths
     (refine cP ?_;refine dL (Snd.ziy (({ l with way:=putW l.way [p] }:Line)).sender hy.snd.pf (by unfold inI;omega) (by omega)) ?_)
     repeat (refine hcut.go ?_;conv=>whnf)
     (refine zae [] [(1000,6),(1001,940)] [(0,950)] ?_;(conv=>whnf);refine dG (zia (Snd.pump (({ l with way:=putW l.way [p] }:Line)).sender).1 (({ l with way:=putW l.way [p] }:Line)).receiver (({ l with way:=putW l.way [p] }:Line)).way (Snd.pump (({ l with way:=putW l.way [p] }:Line)).sender).2 (Snd.zfb hy.snd)) ?_ ⟨rfl,rfl,rfl,⟨⟨rfl,_,rfl,.inl ⟨rfl,rfl⟩⟩,⟨⟨rfl,_,rfl,.inl ⟨rfl,rfl⟩⟩,trivial⟩⟩,⟨⟨rfl,rfl⟩,trivial⟩,rfl,rfl,rfl⟩)
     exact yy55
theorem yoz {N M:Nat} (l:Line) (x:Step) (h:LI N M l) (hN:N+1 <= 2 ^ 20) (hM:M+120 <= 2000000) (hx:x.message.data.length < 2 ^ 38) :
 FunOK Tryz.prog 65 [l.hv,x.hv] zad (.tup [(doS l x).1.hv,(doS l x).2.hv]) zad:=by
 refine zbt Tryz.func65 (yry l x h hN hM hx) ?_
 generalize doS l x=d
 conv=>whnf
 rfl
theorem zci {N M:Nat} (l:Line) (h:LI N M l):FunOK Tryz.prog 55 [l.hv] zad l.hv zad:=by
 have hway:=h.way
 refine zbt Tryz.func55 (yaz l h.snd.fit (h.rcv.fit h.small) (by omega) (fun p hp=>by have:=h.bytes p hp;omega)) ?_
 conv=>whnf
 rfl
end Ln
namespace Snd
open Ser
theorem SL.side {s t:Sender} (h:SL s) (e:t.sched=s.sched):SL t:=by unfold SL;rw [e];exact h
theorem ybk (s:Sender):(Snd.settle s).sched=s.sched:=rfl
theorem yup {s:Sender} (h:SL s) (c:Chunk):SL (hear s c):=by
 unfold hear
 split
 . exact h
 split
 . exact h
 rw [zoo]
 refine h.side ?_
 rw [ybk]
 unfold zer
 have hU:∀ p l,(zif p (zls s c (Sco.sack s.out s.cum c s.paths.length)) l).sched=s.sched:=fun p l=>by
  unfold zif
  split
  . rfl
  . split <;> rfl
 split
 . exact hU _ _
 . exact hU _ _
theorem zri (part:Int):∀ (l:List Nat) (s:Sender),(l.foldl (late1 part) s).sched=s.sched
 | [],_=>rfl
 | i :: l,s=>by
  rw [List.foldl_cons,zri part l]
  unfold late1
  split
  . rfl
  split
  . rfl
  . dsimp only;split <;> rfl
theorem ypa {s:Sender} (h:SL s):SL (tick s):=h.side (zri _ _ _)
theorem znz {path:Nat}:∀ (l:List Nat) (p:Pump),(l.foldl (zcd path) p).s.sched=p.s.sched
 | [],_=>rfl
 | i :: l,p=>by
  rw [List.foldl_cons,znz l]
  unfold zcd
  split
  . rfl
  . split
    . exact ybd _ _ _
    . rfl
theorem yhi {N:Nat}:∀ (n:Nat) {p:Pump},SI N p.s -> SL p.s -> SL (nexts n p).s
 | 0,_,_,h=>h
 | n+1,p,hS,h=>by
  rw [nexts]
  cases hq:next p with
  | none=>exact h
  | some q=>exact yhi n (zqu hS hq) (yot hS hq)
theorem yuq {N:Nat} {s:Sender} (hS:SI N s) (h:SL s):SL (pump s).1:=by
 have h1:=ybc h
 have s1:=(zqs hS).1
 have s2:=zfs (o:=List.replicate s.paths.length []) s1
 have h2:SL (forward ⟨expire s,List.replicate s.paths.length []⟩).s:=h1.side (zly _)
 have h3:SL (again (forward ⟨expire s,List.replicate s.paths.length []⟩)).s:=h2.side (znz _ _)
 exact (yhi 61 (zoq s2) h3).side rfl
theorem ypb {c:Config} (h:wrgS c=0):SL (newS c):=by
 have hw:=zca h
 have e1:(newS c).sched=Sch.new c.streams:=rfl
 unfold SL
 rw [e1]
 unfold Sch.new
 dsimp only
 rw [W_fit (by omega) (by omega),List.length_replicate]
 omega
end Snd
namespace Ln
open Ser
theorem yhj {back:Bool}:∀ (cs:List Chunk) {x:Line × Bool},Snd.SL x.1.sender -> Snd.SL (cs.foldl (hear1 back) x).1.sender
 | [],_,h=>h
 | c :: cs,x,h=>by
  refine yhj (back:=back) cs ?_
  unfold hear1
  split
  . exact Snd.yup h c
  split
  . exact h
  split
  . exact h
  . exact h
theorem ypc {l:Line} (h:Snd.SL l.sender) (p:Packet):Snd.SL (come l p).sender:=by
 have h2:Snd.SL (zgp l p).1.sender:=yhj (back:=p.back) _ (x:=(l,false)) h
 unfold come
 split
 . exact h
 split
 . unfold told;split <;> exact h2
 . exact h2
theorem zrj {N:Nat} {l:Line} (hS:Snd.SI N l.sender) (h:Snd.SL l.sender):Snd.SL (emit l).sender:=Snd.yuq hS h
theorem ztx {N M:Nat} {l:Line} (h:LI N M l) (hl:Snd.SL l.sender) (x:Step) (hN:N+1 <= 2 ^ 20) (hM:M+120 <= 2000000):Snd.SL (doS l x).1.sender:=by
 unfold doS
 split
 . split
   . rename_i e
     exact zrj (l:={ l with sender:=Snd.sendS l.sender x.message }) (Snd.zwd h.snd e hN) (hl.side rfl)
   . exact hl
 split
 . split
   . exact hl
   split
   . exact hl
   rename_i p hp
   have hb:=h.bytes p (List.mem_of_getElem? hp)
   split
   . exact zrj (l:={ l with way:=putW l.way [p] }) h.snd hl
   . split
     . exact zrj (zxa (l:={ l with way:=l.way.eraseIdx x.n.toNat }) ⟨h.snd,h.rcv,h.small,by show (l.way.eraseIdx _).length <= 40;have:=h.way;rw [List.length_eraseIdx];split <;> omega,fun q hq=>h.bytes q (List.mem_of_mem_eraseIdx hq)⟩ hb hM).snd (ypc (l:={ l with way:=l.way.eraseIdx x.n.toNat }) hl p)
     . exact zrj (l:={ l with way:=l.way.eraseIdx x.n.toNat }) h.snd hl
 split
 . exact zrj (l:={ l with sender:=Snd.tick l.sender }) (Snd.zwf h.snd) (Snd.ypa hl)
 . exact hl
theorem ybl {N M:Nat} (l:Line) (p:Packet) (h:LI N M l) (hM:M+120 <= 2000000) (hp:p.bytes.length <= 120) {rows:List (List PV)} (hr:rows=l.way.map Packet.row) :
 FunOK Tryz.prog 108 [.agg (lnC l.sender l.receiver (.p (.sl 3 rows))),p.hv] zad (come l p).hv zad:=by
 subst hr;exact yjp l p h hM hp
theorem zxe {N M:Nat} (l:Line) (x:Step) (h:LI N M l) (hsl:Snd.SL l.sender) (hN:N+1 <= 2 ^ 20) (hM:M+120 <= 2000000) (hx:x.message.data.length < 2 ^ 38) :
 FunOK Tryz.prog 44 [l.hv,x.hv] zad (.tup [(doS l x).1.hv,(doS l x).2.hv]) zad:=by
 have hway:=h.way
 have hby:=h.bytes
 generalize hT:doS l x=T
 rw [doS] at hT
 refine zai mixed Tryz.func44 (by decide) ?_
 conv=>whnf
 (try (refine hcut.go ?_;conv=>whnf))
 by_cases c1:x.kind=1
 case pos =>
  rw [if_pos c1] at hT
  refine zac (beq_iff_eq.2 c1) ?_;conv=>whnf
  have ps:=Snd.yju l.sender x.message h.snd.fit hx
  by_cases e1:Snd.zdl l.sender x.message=0
  case pos =>
   rw [if_pos e1] at hT
   rw [Snd.zlr e1] at ps
   dsimp only at ps
   (refine cP ?_;refine dL ps ?_)
   (try (refine hcut.go ?_;conv=>whnf))
   have hy:=(show LI (N+1) M { l with sender:=Snd.sendS l.sender x.message } from ⟨Snd.zwd h.snd e1 hN,h.rcv,h.small,h.way,h.bytes⟩)
   have hyl:=(show Snd.SL (Snd.sendS l.sender x.message) from hsl.side rfl)
   have hyw:=hy.way
   have pp:=Snd.zhk (({ l with sender:=Snd.sendS l.sender x.message }:Line)).sender hy.snd hyl
   have pu:=zgc (({ l with sender:=Snd.sendS l.sender x.message }:Line)).way (Snd.pump (({ l with sender:=Snd.sendS l.sender x.message }:Line)).sender).2 hyw (Snd.zfb hy.snd) (rows:=(l.way.map Packet.row)) (rfl)
   unfold emit at hT
   generalize Snd.pump (({ l with sender:=Snd.sendS l.sender x.message }:Line)).sender=PP at hT pp pu
   exact yy39
  case neg =>
   rw [if_neg e1] at hT
   subst hT
   rw [Snd.zgo rfl e1] at ps
   dsimp only at ps
   (refine cP ?_;refine dL ps ?_)
   refine zac (bne_iff_ne.2 e1) ?_;conv=>whnf
   try rfl
 rw [if_neg c1] at hT
 refine zab (beq_eq_false_iff_ne.2 c1) ?_;conv=>whnf
 (try (refine hcut.go ?_;conv=>whnf))
 by_cases c2:x.kind=2 \/ x.kind=3 \/ x.kind=4
 case neg =>
  rw [if_neg c2] at hT
  have c2:=not_or.1 c2
  have c3:=not_or.1 c2.2
  refine zab (beq_eq_false_iff_ne.2 c2.1) ?_;conv=>whnf
  (try (refine hcut.go ?_;conv=>whnf))
  refine zab (beq_eq_false_iff_ne.2 c3.1) ?_;conv=>whnf
  (try (refine hcut.go ?_;conv=>whnf))
  refine zab (beq_eq_false_iff_ne.2 c3.2) ?_;conv=>whnf
  (try (refine hcut.go ?_;conv=>whnf))
  by_cases c5:x.kind=5
  case pos =>
   rw [if_pos c5] at hT
   refine zac (beq_iff_eq.2 c5) ?_;conv=>whnf
   (refine cP ?_;refine dL (Snd.yjb l.sender h.snd) ?_)
   have hy:=(show LI N M { l with sender:=Snd.tick l.sender } from ⟨Snd.zwf h.snd,h.rcv,h.small,h.way,h.bytes⟩)
   have hyl:=(Snd.ypa hsl)
   have hyw:=hy.way
   have pp:=Snd.zhk (({ l with sender:=Snd.tick l.sender }:Line)).sender hy.snd hyl
   have pu:=zgc (({ l with sender:=Snd.tick l.sender }:Line)).way (Snd.pump (({ l with sender:=Snd.tick l.sender }:Line)).sender).2 hyw (Snd.zfb hy.snd) (rows:=(l.way.map Packet.row)) (rfl)
   unfold emit at hT
   generalize Snd.pump (({ l with sender:=Snd.tick l.sender }:Line)).sender=PP at hT pp pu
   exact yy39
  case neg =>
   rw [if_neg c5] at hT
   subst hT
   refine zab (beq_eq_false_iff_ne.2 c5) ?_;conv=>whnf
   try rfl
 rw [if_pos c2] at hT
 have c6:x.kind=2 \/ x.kind ≠ 2 /\ (x.kind=3 \/ x.kind ≠ 3 /\ x.kind=4):=by omega
 rcases c6 with c6 | ⟨c8,c6 | ⟨c7,c6⟩⟩
 . refine zac (beq_iff_eq.2 c6) ?_;conv=>whnf
   (try (refine hcut.go ?_;conv=>whnf))
   try (refine zac (beq_iff_eq.2 c6) ?_;conv=>whnf)
   by_cases n0:x.n < 0
   case pos =>
    exact yy118
   rw [if_neg n0] at hT
   refine zab (decide_eq_false n0) ?_;conv=>whnf
   cases hp:l.way[x.n.toNat]? with
   | none =>
    exact yy75
   | some p =>
   rw [hp] at hT
   dsimp only at hT
   have hlt:=(List.getElem?_eq_some_iff.1 hp).1
   have hpb:=hby p (List.mem_of_getElem? hp)
   have her:l.way.eraseIdx x.n.toNat=l.way.take x.n.toNat++l.way.drop (x.n.toNat+1):=List.eraseIdx_eq_take_drop_succ _ _
   refine zab (decide_eq_false (by rw [List.length_map];omega)) ?_;conv=>whnf
   (try (refine hcut.go ?_;conv=>whnf))
   refine Snd.zaj hp (by omega) ?_;conv=>whnf
   (try (refine hcut.go ?_;conv=>whnf))
   rw [if_neg (by omega),if_pos c6] at hT
   refine zab (beq_eq_false_iff_ne.2 (by omega)) ?_;conv=>whnf
   refine zaa (by rw [List.length_map];omega) ?_;conv=>whnf
   refine zee (l:=l.way) (by show 0+(x.n - 0).toNat <= l.way.length;omega) ?_
   conv=>whnf
   refine zaa (c:=(([]:List (List PV)).length+(((l.way.drop 0).take (x.n - 0).toNat).map Packet.row).length) * 40 <= 140737488355328) (by rw [List.length_map,List.length_take,List.length_nil];omega) ?_;conv=>whnf
   refine zam (z:=x.n+1) (W_fit (by omega) (by omega)) ?_;conv=>whnf
   refine zaa (by rw [List.length_map];omega) ?_;conv=>whnf
   refine zdq (l:=l.way) (by show (x.n+1).toNat+(((List.map Packet.row l.way).length:Int) - (x.n+1)).toNat=l.way.length;rw [List.length_map];omega) ?_
   conv=>whnf
   refine zaa (c:=((([]:List (List PV))++((l.way.drop 0).take (x.n - 0).toNat).map Packet.row).length+((l.way.drop (x.n+1).toNat).map Packet.row).length) * 40 <= 140737488355328) (by rw [List.nil_append,List.length_map,List.length_map,List.length_take,List.length_drop,List.length_drop];omega) ?_;conv=>whnf
   refine sD ?_
   have hrow:(([]:List (List PV))++((l.way.drop 0).take (x.n - 0).toNat).map Packet.row)++(l.way.drop (x.n+1).toNat).map Packet.row=(l.way.eraseIdx x.n.toNat).map Packet.row:=by
    exact yy130
   have hli:LI N M { l with way:=l.way.eraseIdx x.n.toNat }:=⟨h.snd,h.rcv,h.small,by show (l.way.eraseIdx _).length <= 40;rw [List.length_eraseIdx];split <;> omega,fun q hq=>hby q (List.mem_of_mem_eraseIdx hq)⟩
   refine zac (beq_iff_eq.2 c6) ?_;conv=>whnf
   have hcl:=zxa hli hpb hM
   have hcs:=ypc (l:={ l with way:=l.way.eraseIdx x.n.toNat }) hsl p
   have pc:=ybl { l with way:=l.way.eraseIdx x.n.toNat } p hli hM hpb hrow
   generalize come { l with way:=l.way.eraseIdx x.n.toNat } p=Y at hT hcl hcs pc
   (refine cP ?_;refine dL pc ?_)
   have hy:=hcl
   have hyl:=hcs
   have hyw:=hy.way
   have pp:=Snd.zhk (Y).sender hy.snd hyl
   have pu:=zgc (Y).way (Snd.pump (Y).sender).2 hyw (Snd.zfb hy.snd) (rows:=(Y.way.map Packet.row)) (rfl)
   unfold emit at hT
   generalize Snd.pump (Y).sender=PP at hT pp pu
   exact yy39
 . refine zab (beq_eq_false_iff_ne.2 c8) ?_;conv=>whnf
   (try (refine hcut.go ?_;conv=>whnf))
   refine zac (beq_iff_eq.2 c6) ?_;conv=>whnf
   (try (refine hcut.go ?_;conv=>whnf))
   try (refine zac (beq_iff_eq.2 c6) ?_;conv=>whnf)
   by_cases n0:x.n < 0
   case pos =>
    exact yy118
   rw [if_neg n0] at hT
   refine zab (decide_eq_false n0) ?_;conv=>whnf
   cases hp:l.way[x.n.toNat]? with
   | none =>
    exact yy75
   | some p =>
   rw [hp] at hT
   dsimp only at hT
   have hlt:=(List.getElem?_eq_some_iff.1 hp).1
   have hpb:=hby p (List.mem_of_getElem? hp)
   have her:l.way.eraseIdx x.n.toNat=l.way.take x.n.toNat++l.way.drop (x.n.toNat+1):=List.eraseIdx_eq_take_drop_succ _ _
   refine zab (decide_eq_false (by rw [List.length_map];omega)) ?_;conv=>whnf
   (try (refine hcut.go ?_;conv=>whnf))
   refine Snd.zaj hp (by omega) ?_;conv=>whnf
   (try (refine hcut.go ?_;conv=>whnf))
   rw [if_neg (by omega),if_neg c8] at hT
   refine zab (beq_eq_false_iff_ne.2 (by omega)) ?_;conv=>whnf
   refine zaa (by rw [List.length_map];omega) ?_;conv=>whnf
   refine zee (l:=l.way) (by show 0+(x.n - 0).toNat <= l.way.length;omega) ?_
   conv=>whnf
   refine zaa (c:=(([]:List (List PV)).length+(((l.way.drop 0).take (x.n - 0).toNat).map Packet.row).length) * 40 <= 140737488355328) (by rw [List.length_map,List.length_take,List.length_nil];omega) ?_;conv=>whnf
   refine zam (z:=x.n+1) (W_fit (by omega) (by omega)) ?_;conv=>whnf
   refine zaa (by rw [List.length_map];omega) ?_;conv=>whnf
   refine zdq (l:=l.way) (by show (x.n+1).toNat+(((List.map Packet.row l.way).length:Int) - (x.n+1)).toNat=l.way.length;rw [List.length_map];omega) ?_
   conv=>whnf
   refine zaa (c:=((([]:List (List PV))++((l.way.drop 0).take (x.n - 0).toNat).map Packet.row).length+((l.way.drop (x.n+1).toNat).map Packet.row).length) * 40 <= 140737488355328) (by rw [List.nil_append,List.length_map,List.length_map,List.length_take,List.length_drop,List.length_drop];omega) ?_;conv=>whnf
   refine sD ?_
   have hrow:(([]:List (List PV))++((l.way.drop 0).take (x.n - 0).toNat).map Packet.row)++(l.way.drop (x.n+1).toNat).map Packet.row=(l.way.eraseIdx x.n.toNat).map Packet.row:=by
    exact yy130
   have hli:LI N M { l with way:=l.way.eraseIdx x.n.toNat }:=⟨h.snd,h.rcv,h.small,by show (l.way.eraseIdx _).length <= 40;rw [List.length_eraseIdx];split <;> omega,fun q hq=>hby q (List.mem_of_mem_eraseIdx hq)⟩
   refine zab (beq_eq_false_iff_ne.2 c8) ?_;conv=>whnf
   have hy:=hli
   have hyl:=hsl
   have hyw:=hy.way
   have pp:=Snd.zhk (({ l with way:=l.way.eraseIdx x.n.toNat }:Line)).sender hy.snd hyl
   have pu:=zgc (({ l with way:=l.way.eraseIdx x.n.toNat }:Line)).way (Snd.pump (({ l with way:=l.way.eraseIdx x.n.toNat }:Line)).sender).2 hyw (Snd.zfb hy.snd) (rows:=_) (hrow)
   unfold emit at hT
   generalize Snd.pump (({ l with way:=l.way.eraseIdx x.n.toNat }:Line)).sender=PP at hT pp pu
   exact yy39
 . refine zab (beq_eq_false_iff_ne.2 c8) ?_;conv=>whnf
   (try (refine hcut.go ?_;conv=>whnf))
   refine zab (beq_eq_false_iff_ne.2 c7) ?_;conv=>whnf
   (try (refine hcut.go ?_;conv=>whnf))
   refine zac (beq_iff_eq.2 c6) ?_;conv=>whnf
   (try (refine hcut.go ?_;conv=>whnf))
   try (refine zac (beq_iff_eq.2 c6) ?_;conv=>whnf)
   by_cases n0:x.n < 0
   case pos =>
    exact yy118
   rw [if_neg n0] at hT
   refine zab (decide_eq_false n0) ?_;conv=>whnf
   cases hp:l.way[x.n.toNat]? with
   | none =>
    exact yy75
   | some p =>
   rw [hp] at hT
   dsimp only at hT
   have hlt:=(List.getElem?_eq_some_iff.1 hp).1
   have hpb:=hby p (List.mem_of_getElem? hp)
   have her:l.way.eraseIdx x.n.toNat=l.way.take x.n.toNat++l.way.drop (x.n.toNat+1):=List.eraseIdx_eq_take_drop_succ _ _
   refine zab (decide_eq_false (by rw [List.length_map];omega)) ?_;conv=>whnf
   (try (refine hcut.go ?_;conv=>whnf))
   refine Snd.zaj hp (by omega) ?_;conv=>whnf
   (try (refine hcut.go ?_;conv=>whnf))
   rw [if_pos c6] at hT
   refine zac (beq_iff_eq.2 c6) ?_;conv=>whnf
   (refine cP ?_;refine dL (zrh l.way [p] hway (by simp)) ?_)
   have hput:LI N M { l with way:=putW l.way [p] }:=yay h fun q hq=>by rw [List.mem_singleton] at hq;subst hq;exact hpb
   have hy:=hput
   have hyl:=hsl
   have hyw:=hy.way
   have pp:=Snd.zhk (({ l with way:=putW l.way [p] }:Line)).sender hy.snd hyl
   have pu:=zgc (({ l with way:=putW l.way [p] }:Line)).way (Snd.pump (({ l with way:=putW l.way [p] }:Line)).sender).2 hyw (Snd.zfb hy.snd) (rows:=((putW l.way [p]).map Packet.row)) (rfl)
   unfold emit at hT
   generalize Snd.pump (({ l with way:=putW l.way [p] }:Line)).sender=PP at hT pp pu
   exact yy39
end Ln
namespace Ln
open Ser
abbrev rowAn (l:List Answer):HSlot:=.live (.row 81 2 (l.map Answer.row))
abbrev stps (l:List Step):HV:=.p (.sl 7 (l.map Step.row))
abbrev lnL (l:Line):HSlot:=.live (.cells 40 l.cells)
abbrev zeroL:List HV:=[i64 0,i64 0,i64 0,i64 0,i64 0,i64 0,i64 0,i64 0,hnil,i64 0,i64 0,hnil,hnil,hnil,i64 0,i64 0,i64 0,hnil,hnil,hbool false,i64 0,i64 0,i64 0,i64 0,i64 0,i64 0,i64 0,i64 0,i64 0,hnil,hnil,hnil,hnil,hnil]
theorem ypd (l:Line) (A:List Step) (x:Step):play l (A++[x])=((doS (play l A).1 x).1,(play l A).2++[(doS (play l A).1 x).2]):=by
 rw [ygx];rfl
end Ln
namespace Ln
open Ser
theorem zty (c:Config):FunOK Tryz.prog 43 [c.hv] zad (.tup [(newLP c).1.hv,i64 (newLP c).2]) zad:=by
 refine zai mixed Tryz.func43 (by decide) ?_
 conv=>whnf
 have pn:=Snd.yjv c
 by_cases c1:Snd.wrgS c=0
 case neg =>
  rw [show newLP c=(noL,Snd.wrgS c) from if_neg c1]
  rw [show Snd.newP c=(Snd.noS,Snd.wrgS c) from if_neg c1] at pn
  (refine cP ?_;refine dL pn ?_)
  refine zac (bne_iff_ne.2 c1) ?_;conv=>whnf
  try rfl
 have hw:=Snd.zca c1
 rw [show newLP c=(newL c,0) from if_pos c1]
 rw [show Snd.newP c=(Snd.newS c,0) from if_pos c1] at pn
 (refine cP ?_;refine dL pn ?_)
 (try (refine hcut.go ?_;conv=>whnf))
 (refine cP ?_;refine dL (Rcv.yjl c (by omega) (by omega) (by omega)) ?_)
 ((refine zap ?_ ?_;(· kernel_rfl);conv=>whnf);try (refine hcut.go ?_;conv=>whnf))
 try rfl
theorem ype:∀ (a:List Step) {N M:Nat} {l:Line},LI N M l -> Snd.SL l.sender -> N+a.length <= 2 ^ 20 -> M+120 * a.length <= 2000000 -> Snd.SL (play l a).1.sender
 | [],_,_,_,_,h,_,_=>h
 | x :: a,N,M,l,hl,h,h1,h2=>by
  simp only [List.length_cons] at h1 h2
  exact ype a (zkb hl x (by omega) (by omega)) (ztx hl h x (by omega) (by omega)) (by omega) (by omega)
theorem zrv (c:Config) (l:List Step) (c1:Snd.wrgS c ≠ 0):FunOK Tryz.prog 30 [c.hv,stps l] zad (.tup [noL.hv,.p (.sl 2 [])]) zad:=by
 refine zai mixed Tryz.func30 (by decide) ?_
 conv=>whnf
 have pn:=zty c
 rw [show newLP c=(noL,Snd.wrgS c) from if_neg c1] at pn
 (refine cP ?_;refine dL pn ?_)
 refine zac (bne_iff_ne.2 c1) ?_;conv=>whnf
 try rfl
theorem ydv (c:Config) (l:List Step) (c1:Snd.wrgS c=0) (hb:∀ x ∈ l,x.message.data.length < 2 ^ 38) :
 FunOK Tryz.prog 30 [c.hv,stps l] zad (.tup [(play (newL c) (l.take 200)).1.hv,.p (.sl 2 ((play (newL c) (l.take 200)).2.map Answer.row))]) zad:=by
 refine zai mixed Tryz.func30 (by decide) ?_
 generalize hT:play (newL c) (l.take 200)=T
 conv=>whnf
 have pn:=zty c
 rw [show newLP c=(newL c,0) from if_pos c1] at pn
 (refine cP ?_;refine dL pn ?_)
 (try (refine hcut.go ?_;conv=>whnf))
 refine ⟨{ x:(Line × List Answer) × List Step × List Step // l=x.2.1++x.2.2 /\ x.2.1.length <= 200 /\ play (newL c) x.2.1=x.1 /\ LI x.2.1.length (120 * x.2.1.length) x.1.1 /\ Snd.SL x.1.1.sender },fun | ⟨((y,az),A,B),_⟩=>hs 44 [(4,.ptr 4 0),(6,.ptr 6 0),(8,.own 900),(21,stps l),(22,i64 l.length),(23,i64 A.length)] [(4,.live (.cells 40 zeroL)),(6,lnL y),(900,rowAn az)],fun x=>x.1.2.2.length,⟨((newL c,[]),[],l),rfl,by simp,rfl,zxc c1,Snd.ypb c1⟩,?_,?_⟩
 . exact (hle_Q [(4,some 4),(6,some 6),(900,none)])
 rintro ⟨⟨⟨y,az⟩,A,B⟩,k1,k0,k2,k3,k4⟩
 dsimp only at k1 k0 k2 k3 k4
 refine zbh fun Q hQ=>?_
 conv=>whnf
 have hal:az.length=A.length:=by have:=ygy A (newL c);rw [k2] at this;exact this
 cases B with
 | cons x B =>
  have hz:=zat k1
  have hxd:=hb x (zef k1)
  have hnx:=ypd (newL c) A x
  rw [k2] at hnx
  dsimp only at hnx
  refine sT ?_
  refine zah k1 rfl ?_;conv=>whnf
  (try (refine hcut.go ?_;conv=>whnf))
  by_cases c2:A.length=200
  case pos =>
   have ht:l.take 200=A:=by rw [k1,<- c2,List.take_left]
   rw [ht,k2] at hT
   subst hT
   refine zac (beq_iff_eq.2 (by omega)) ?_;conv=>whnf
   refine hQ _ _ ?_;conv=>whnf
   try rfl
  have hli:=zkb k3 x (by omega) (by omega)
  have hsl:=ztx k3 k4 x (by omega) (by omega)
  have pd:=zxe y x k3 k4 (by omega) (by omega) hxd
  generalize doS y x=D at hnx hli hsl pd
  obtain ⟨z,a⟩:=D
  dsimp only at hnx hli hsl pd
  refine zab (beq_eq_false_iff_ne.2 (by omega)) ?_;conv=>whnf
  (try (refine hcut.go ?_;conv=>whnf))
  (refine cP ?_;refine dL pd ?_)
  refine zaa (c:=((az.map Answer.row).length+1) * 16 <= 140737488355328) (by rw [List.length_map];omega) ?_;conv=>whnf
  refine sF ?_
  refine hQ _ _ ?_;conv=>whnf
  exact ⟨⟨((z,az++[a]),A++[x],B),zag k1,by simp;omega,hnx,by rw [List.length_append,List.length_singleton,show 120 * (A.length+1)=120 * A.length+120 by omega];exact hli,hsl⟩,(hle_X [(4,some 4),(6,some 6),(900,some 40)] (by repeat' (first | exact z0 | refine z1 ?_ | refine ⟨?_,?_⟩ | ((exact zau (f:=Answer.row) rfl rfl)) | exact z2))),by simp⟩
 | nil =>
  have hz:=zaz k1
  rw [List.append_nil] at k1
  have ht:l.take 200=A:=by rw [k1,List.take_of_length_le k0]
  rw [ht,k2] at hT
  subst hT
  refine sN ?_
  refine hQ _ _ ?_;conv=>whnf
  try rfl
end Ln
namespace Snd
open Ser
theorem zod (m:Message):FunOK Tryz.prog 60 [m.hv,m.hv] zad (hbool true) zad:=by
 refine zai mixed Tryz.func60 (by decide) ?_
 conv=>whnf
 repeat' (first | (refine zac ?_ ?_;(· simp;done);conv=>whnf) | (refine zfh rfl ?_;conv=>whnf))
 rw [beq_self_eq_true]
theorem zoe (l:List Packet) (hb:l.length < 2 ^ 62):FunOK Tryz.prog 41 [.p (.sl 3 (l.map Packet.row)),.p (.sl 3 (l.map Packet.row))] zad (hbool true) zad:=by
 refine zai mixed Tryz.func41 (by decide) ?_
 conv=>whnf
 refine zab (by simp) ?_;conv=>whnf
 (try (refine hcut.go ?_;conv=>whnf))
 refine ⟨{ x:List Packet × List Packet // l=x.1++x.2 },fun | ⟨(a,b),_⟩=>hs 56 [(0,.p (.sl 3 (l.map Packet.row))),(1,.p (.sl 3 (l.map Packet.row))),(12,i64 l.length),(13,i64 a.length)] [],fun x=>x.1.2.length,⟨([],l),rfl⟩,?_,?_⟩
 . exact (hle_Q [])
 rintro ⟨⟨a,b⟩,h⟩
 dsimp only at h
 conv=>whnf
 cases b with
 | cons p b =>
  have hz:=zat h
  refine sT ?_
  refine zah h rfl ?_;conv=>whnf
  refine zah h rfl ?_;conv=>whnf
  refine zab (by simp) ?_;conv=>whnf
  refine zah h rfl ?_;conv=>whnf
  refine zah h rfl ?_;conv=>whnf
  refine zab (by simp) ?_;conv=>whnf
  refine zah h rfl ?_;conv=>whnf
  refine zfh rfl ?_;conv=>whnf
  refine zah h rfl ?_;conv=>whnf
  refine zfh rfl ?_;conv=>whnf
  refine sD ?_
  refine zab (by simp) ?_;conv=>whnf
  (try (refine hcut.go ?_;conv=>whnf))
  refine sF ?_
  exact ⟨⟨(a++[p],b),zag h⟩,(hle_Q []),by simp⟩
 | nil =>
  have hz:=zaz h
  ((refine hif_F ?_;conv=>whnf);try (refine hcut.go ?_;conv=>whnf))
theorem zrk (s:Sender) (hs:Fit s) (hx:∀ x ∈ s.out,x.chunk.spans.length < 2 ^ 38 /\ x.chunk.skips.length < 2 ^ 38):FunOK Tryz.prog 28 [s.hv,s.hv] zad (hbool true) zad:=by
 obtain ⟨h1,h2,h3,h4,h5,h6,h7⟩:=hs
 have hol:=h3.len
 refine zai mixed Tryz.func28 (by decide) ?_
 conv=>whnf
 repeat' (first | (refine zaa ?_ ?_;(· kernel_rfl);conv=>whnf) | (refine zab ?_ ?_;(· simp;done);conv=>whnf) | (refine zar ?_;(conv=>whnf);refine ⟨_,Sch.zru s.sched (by omega),rfl,?_⟩;conv=>whnf) | (refine zar ?_;(conv=>whnf);refine ⟨_,Sco.zwg s.out (by omega) hx,rfl,?_⟩;conv=>whnf))
 (try (refine hcut.go ?_;conv=>whnf))
 repeat' (refine zab ?_ ?_;(· simp;done);conv=>whnf)
 (try (refine hcut.go ?_;conv=>whnf))
 refine ⟨{ x:List Queued × List Queued // s.queue=x.1++x.2 },fun | ⟨(a,b),_⟩=>hs 220 [(2,.ptr 2 0),(3,.ptr 3 0),(110,i64 s.queue.length),(111,i64 a.length)] [(2,scS s),(3,scS s)],fun x=>x.1.2.length,⟨([],s.queue),rfl⟩,?_,?_⟩
 . exact (hle_Q [(2,some 2),(3,some 3)])
 rintro ⟨⟨a,b⟩,h⟩
 dsimp only at h
 refine zbh fun Q hQ=>?_
 conv=>whnf
 cases b with
 | cons p b =>
  have hz:=zat h
  refine sT ?_
  refine zah h rfl ?_;conv=>whnf
  refine zah h rfl ?_;conv=>whnf
  refine sD ?_
  repeat' (refine zab ?_ ?_;(· simp;done);conv=>whnf)
  (refine cL ?_;refine dL (zod p.message) ?_)
  (try (refine hcut.go ?_;conv=>whnf))
  exact yy40
 | nil =>
 have hz:=zaz h
 refine sN ?_
 refine hQ _ _ ?_;conv=>whnf
 refine ⟨{ x:List Path × List Path // s.paths=x.1++x.2 },fun | ⟨(a,b),_⟩=>hs 220 [(2,.ptr 2 0),(3,.ptr 3 0),(168,i64 s.paths.length),(169,i64 a.length)] [(2,scS s),(3,scS s)],fun x=>x.1.2.length,⟨([],s.paths),rfl⟩,?_,?_⟩
 . exact (hle_Q [(2,some 2),(3,some 3)])
 rintro ⟨⟨a,b⟩,h⟩
 dsimp only at h
 refine zbh fun Q hQ=>?_
 conv=>whnf
 cases b with
 | cons p b =>
  have hz:=zat h
  refine sT ?_
  refine zah h rfl ?_;conv=>whnf
  refine zah h rfl ?_;conv=>whnf
  try (refine zaa ?_ ?_;(· kernel_rfl);conv=>whnf)
  refine sD ?_
  refine zab (by simp) ?_;conv=>whnf
  (try (refine hcut.go ?_;conv=>whnf))
  exact yy40
 | nil =>
 have hz:=zaz h
 refine sN ?_
 refine hQ _ _ ?_;conv=>whnf
 refine ⟨{ x:List Int × List Int // s.mids=x.1++x.2 },fun | ⟨(a,b),_⟩=>hs 220 [(2,.ptr 2 0),(3,.ptr 3 0),(186,i64 s.mids.length),(187,i64 a.length)] [(2,scS s),(3,scS s)],fun x=>x.1.2.length,⟨([],s.mids),rfl⟩,?_,?_⟩
 . exact (hle_Q [(2,some 2),(3,some 3)])
 rintro ⟨⟨a,b⟩,h⟩
 dsimp only at h
 refine zbh fun Q hQ=>?_
 conv=>whnf
 cases b with
 | cons p b =>
  have hz:=zat h
  refine sT ?_
  refine zah (f:=fun n:Int=>[pi n]) h rfl ?_;conv=>whnf
  refine zah (f:=fun n:Int=>[pi n]) h rfl ?_;conv=>whnf
  refine sD ?_
  refine zab (by simp) ?_;conv=>whnf
  (try (refine hcut.go ?_;conv=>whnf))
  exact yy40
 | nil =>
 have hz:=zaz h
 refine sN ?_
 refine hQ _ _ ?_;conv=>whnf
 refine ⟨{ x:List Int × List Int // s.fates=x.1++x.2 },fun | ⟨(a,b),_⟩=>hs 220 [(2,.ptr 2 0),(3,.ptr 3 0),(204,i64 s.fates.length),(205,i64 a.length)] [(2,scS s),(3,scS s)],fun x=>x.1.2.length,⟨([],s.fates),rfl⟩,?_,?_⟩
 . exact (hle_Q [(2,some 2),(3,some 3)])
 rintro ⟨⟨a,b⟩,h⟩
 dsimp only at h
 refine zbh fun Q hQ=>?_
 conv=>whnf
 cases b with
 | cons p b =>
  have hz:=zat h
  refine sT ?_
  refine zah (f:=fun n:Int=>[pi n]) h rfl ?_;conv=>whnf
  refine zah (f:=fun n:Int=>[pi n]) h rfl ?_;conv=>whnf
  refine sD ?_
  refine zab (by simp) ?_;conv=>whnf
  (try (refine hcut.go ?_;conv=>whnf))
  exact yy40
 | nil =>
 have hz:=zaz h
 refine sN ?_
 refine hQ _ _ ?_;conv=>whnf
end Snd
namespace Ln
open Ser
theorem ydw {back:Bool} {x:Line × Bool} {c:Chunk} (h:Rcv.Small x.1.receiver) (h1:c.spans.length < 2 ^ 38) (h2:c.skips.length < 2 ^ 38):Rcv.Small (hear1 back x c).1.receiver:=by
 unfold hear1
 split
 . exact h
 split
 . exact h.data h1 h2
 split
 . exact h.forward c
 . exact h
theorem zrl {back:Bool}:∀ (cs:List Chunk) {x:Line × Bool},Rcv.Small x.1.receiver -> (∀ c ∈ cs,c.spans.length < 2 ^ 38 /\ c.skips.length < 2 ^ 38) -> Rcv.Small (cs.foldl (hear1 back) x).1.receiver
 | [],_,h,_=>h
 | c :: cs,x,h,hc=>zrl (back:=back) cs (ydw (back:=back) h (hc c (by simp)).1 (hc c (by simp)).2) fun y hy=>hc y (by simp [hy])
theorem yjx {l:Line} (h:Rcv.Small l.receiver) {p:Packet} (hp:p.bytes.length <= 120):Rcv.Small (come l p).receiver:=by
 have hw:=zlx p.bytes
 have h2:Rcv.Small (zgp l p).1.receiver:=zrl (back:=p.back) _ (x:=(l,false)) h fun c hc=>by
  obtain ⟨a,b⟩:=hw.2 c hc
  have:Rcv.wt c=c.data.length+c.skips.length+1:=rfl
  omega
 unfold come
 split
 . exact h
 split
 . unfold told;split <;> exact h2
 . exact h2
theorem zrm {N M:Nat} {l:Line} (h:LI N M l) (hs:Rcv.Small l.receiver) (x:Step):Rcv.Small (doS l x).1.receiver:=by
 unfold doS
 split
 . split <;> exact hs
 split
 . split
   . exact hs
   split
   . exact hs
   rename_i p hp
   split
   . exact hs
   . split
     . exact yjx (l:={ l with way:=l.way.eraseIdx x.n.toNat }) hs (h.bytes p (List.mem_of_getElem? hp))
     . exact hs
 split <;> exact hs
theorem ztz:∀ (a:List Step) {N M:Nat} {l:Line},LI N M l -> Rcv.Small l.receiver -> N+a.length <= 2 ^ 20 -> M+120 * a.length <= 2000000 -> Rcv.Small (play l a).1.receiver
 | [],_,_,_,_,h,_,_=>h
 | x :: a,N,M,l,hl,h,h1,h2=>by
  simp only [List.length_cons] at h1 h2
  exact ztz a (zkb hl x (by omega) (by omega)) (zrm hl h x) (by omega) (by omega)
theorem ypf {N:Nat} {s:Sender} (h:Snd.SI N s):∀ x ∈ s.out,x.chunk.spans.length < 2 ^ 38 /\ x.chunk.skips.length < 2 ^ 38:=fun x hx=>by
 rw [(h.out x hx).spans,(h.out x hx).skips];decide
theorem zxf (l:Line) (h1:Snd.Fit l.sender) (h2:∀ x ∈ l.sender.out,x.chunk.spans.length < 2 ^ 38 /\ x.chunk.skips.length < 2 ^ 38) (h3:Rcv.Fit l.receiver) (h4:Rcv.Small l.receiver) (h5:l.way.length < 2 ^ 40):FunOK Tryz.prog 47 [l.hv,l.hv] zad (hbool true) zad:=by
 refine zai mixed Tryz.func47 (by decide) ?_
 conv=>whnf
 have f1:=h3.spans
 have f2:=h3.pieces
 have f3:=h3.turn
 have f4:=h3.log
 (refine cL ?_;refine dLm (Snd.zrk l.sender h1 h2) ?_)
 (refine cL ?_;refine dLm (Rcv.znc l.receiver (by omega) (by omega) (by omega) (by omega) h4) ?_)
 ((refine zar ?_;(conv=>whnf);refine ⟨_,Snd.zoe l.way (by omega),rfl,?_⟩;conv=>whnf);try (refine hcut.go ?_;conv=>whnf))
theorem zrn {N M:Nat} {l:Line} (h:LI N M l) (hs:Rcv.Small l.receiver):FunOK Tryz.prog 47 [l.hv,l.hv] zad (hbool true) zad :=
 zxf l h.snd.fit (ypf h.snd) (h.rcv.fit h.small) hs (by have:=h.way;omega)
end Ln
namespace Snd
open Ser
end Snd
namespace Ln
open Ser Snd
def stp (k:Int):Step:=⟨k,0,⟨0,false,0,0,[]⟩⟩
end Ln
namespace Ln
open Ser
def zkc:Nat -> Line -> Line
 | 0,l=>l
 | n+1,l=>zkc n (doS l (stp 2)).1
def round (l:Line):Line:=(doS (zkc l.way.length l) (stp 5)).1
theorem zkq:∀ (n:Nat) (l:Line),zkc (n+1) l=(doS (zkc n l) (stp 2)).1
 | 0,_=>rfl
 | n+1,l=>by rw [zkc,zkq n];rfl
theorem zma:∀ (n:Nat) {N M:Nat} {l:Line},LI N M l -> N+n <= 2 ^ 20 -> M+120 * n <= 2000000 -> LI (N+n) (M+120 * n) (zkc n l)
 | 0,_,_,_,h,_,_=>h
 | n+1,N,M,l,h,h1,h2=>by
  have:=zma n (zkb h (stp 2) (by omega) (by omega)) (by omega) (by omega)
  rw [show N+(n+1)=N+1+n by omega,show M+120 * (n+1)=M+120+120 * n by omega];exact this
theorem ybm:∀ (n:Nat) {N M:Nat} {l:Line},LI N M l -> Snd.SL l.sender -> N+n <= 2 ^ 20 -> M+120 * n <= 2000000 -> Snd.SL (zkc n l).sender
 | 0,_,_,_,_,h,_,_=>h
 | n+1,N,M,l,h,hs,h1,h2=>ybm n (zkb h (stp 2) (by omega) (by omega)) (ztx h hs (stp 2) (by omega) (by omega)) (by omega) (by omega)
theorem zoa:∀ (n:Nat) {N M:Nat} {l:Line},LI N M l -> Rcv.Small l.receiver -> N+n <= 2 ^ 20 -> M+120 * n <= 2000000 -> Rcv.Small (zkc n l).receiver
 | 0,_,_,_,_,h,_,_=>h
 | n+1,N,M,l,h,hs,h1,h2=>zoa n (zkb h (stp 2) (by omega) (by omega)) (zrm h hs (stp 2)) (by omega) (by omega)
section
variable {N M:Nat} {l:Line}
theorem zmb (h:LI N M l) (h1:N+41 <= 2 ^ 20) (h2:M+4920 <= 2000000):LI (N+41) (M+4920) (round l):=by
 have hw:=h.way
 have:=zkb (zma l.way.length h (by omega) (by omega)) (stp 5) (by omega) (by omega)
 exact ⟨this.snd.mono (by omega) (by omega),this.rcv.more (by omega),by omega,this.way,this.bytes⟩
theorem zot (h:LI N M l) (hs:Snd.SL l.sender) (h1:N+41 <= 2 ^ 20) (h2:M+4920 <= 2000000):Snd.SL (round l).sender:=by
 have hw:=h.way
 exact ztx (zma l.way.length h (by omega) (by omega)) (ybm _ h hs (by omega) (by omega)) (stp 5) (by omega) (by omega)
theorem zro (h:LI N M l) (hs:Rcv.Small l.receiver) (h1:N+41 <= 2 ^ 20) (h2:M+4920 <= 2000000):Rcv.Small (round l).receiver:=by
 have hw:=h.way
 exact zrm (zma l.way.length h (by omega) (by omega)) (zoa _ h hs (by omega) (by omega)) (stp 5)
end
theorem zne {N M:Nat} (l:Line) (h:LI N M l) (hsl:Snd.SL l.sender) (h1:N+41 <= 2 ^ 20) (h2:M+4920 <= 2000000):FunOK Tryz.prog 48 [l.hv] zad (round l).hv zad:=by
 have hw:=h.way
 refine zai mixed Tryz.func48 (by decide) ?_
 conv=>whnf
 generalize hT:round l=T
 refine ⟨{ x:(Nat × Nat) × Line // l.way.length=x.1.1+x.1.2 /\ zkc x.1.1 l=x.2 /\ LI (N+x.1.1) (M+120 * x.1.1) x.2 /\ Snd.SL x.2.sender },fun | ⟨((k,_),y),_⟩=>hs 22 [(1,.ptr 1 0),(2,.ptr 2 0),(5,i64 l.way.length),(6,i64 k)] [(1,lnL y),(2,.live (.cells 40 zeroL))],fun x=>x.1.1.2,⟨((0,l.way.length),l),by simp,rfl,h,hsl⟩,?_,?_⟩
 . exact (hle_Q [(1,some 1),(2,some 2)])
 rintro ⟨⟨⟨k,d⟩,y⟩,k1,k2,k3,k4⟩
 dsimp only at k1 k2 k3 k4
 refine zbh fun Q hQ=>?_
 conv=>whnf
 cases d with
 | succ d =>
  have hli:=zkb k3 (stp 2) (by omega) (by omega)
  have hsl2:=ztx k3 k4 (stp 2) (by omega) (by omega)
  have hnx:=zkq k l
  rw [k2] at hnx
  have pd:=yoz y (stp 2) k3  (by omega) (by omega) (by decide)
  exact yy61
 | zero =>
  have hk:k=l.way.length:=by omega
  subst hk
  have pd:=yoz y (stp 5) k3  (by omega) (by omega) (by decide)
  exact yy98
theorem zrp {N M:Nat} (l:Line) (h:LI N M l) (hsl:Snd.SL l.sender) (h1:N+41 <= 2 ^ 20) (h2:M+4920 <= 2000000):FunOK Tryz.prog 49 [l.hv] zad (round l).hv zad:=by
 have hw:=h.way
 refine zai mixed Tryz.func49 (by decide) ?_
 conv=>whnf
 generalize hT:round l=T
 refine ⟨{ x:(Nat × Nat) × Line // l.way.length=x.1.1+x.1.2 /\ zkc x.1.1 l=x.2 /\ LI (N+x.1.1) (M+120 * x.1.1) x.2 /\ Snd.SL x.2.sender },fun | ⟨((k,_),y),_⟩=>hs 22 [(1,.ptr 1 0),(2,.ptr 2 0),(5,i64 l.way.length),(6,i64 k)] [(1,lnL y),(2,.live (.cells 40 zeroL))],fun x=>x.1.1.2,⟨((0,l.way.length),l),by simp,rfl,h,hsl⟩,?_,?_⟩
 . exact (hle_Q [(1,some 1),(2,some 2)])
 rintro ⟨⟨⟨k,d⟩,y⟩,k1,k2,k3,k4⟩
 dsimp only at k1 k2 k3 k4
 refine zbh fun Q hQ=>?_
 conv=>whnf
 cases d with
 | succ d =>
  have hli:=zkb k3 (stp 2) (by omega) (by omega)
  have hsl2:=ztx k3 k4 (stp 2) (by omega) (by omega)
  have hnx:=zkq k l
  rw [k2] at hnx
  have pd:=zxe y (stp 2) k3 k4 (by omega) (by omega) (by decide)
  exact yy61
 | zero =>
  have hk:k=l.way.length:=by omega
  subst hk
  have pd:=zxe y (stp 5) k3 k4 (by omega) (by omega) (by decide)
  exact yy98
end Ln
namespace Ln
open Ser
def busy (l:Line):Bool:=!(Snd.calm l.sender) || decide (0 < l.way.length)
def zde:Nat -> Line -> Line × Nat
 | 0,l=>(l,0)
 | n+1,l=>if busy l then ((zde n (round l)).1,(zde n (round l)).2+1) else (l,0)
theorem zhl {n:Nat} {l:Line} (h:n=0 \/ busy l=false):zde n l=(l,0):=by
 cases n with
 | zero=>rfl
 | succ n=>rw [zde,if_neg (by rw [h.resolve_left (by omega)];decide)]
theorem zib {n:Nat} {l:Line} (h:busy l=true):zde (n+1) l=((zde n (round l)).1,(zde n (round l)).2+1):=by rw [zde,if_pos h]
theorem yrz (l:Line):busy l=decide (0 < l.way.length+l.sender.queue.length+l.sender.out.length):=by
 unfold busy Snd.calm
 by_cases h:0 < l.way.length+l.sender.queue.length+l.sender.out.length
 . rw [decide_eq_true h]
   simp only [Bool.or_eq_true,Bool.not_eq_true',Bool.and_eq_false_iff,decide_eq_false_iff_not,decide_eq_true_eq]
   omega
 . rw [decide_eq_false h]
   simp only [Bool.or_eq_false_iff,Bool.not_eq_false',Bool.and_eq_true,decide_eq_false_iff_not,decide_eq_true_eq]
   omega
theorem zua:∀ (n:Nat) {N M:Nat} {l:Line},LI N M l -> Snd.SL l.sender -> Rcv.Small l.receiver -> N+41 * n <= 2 ^ 20 -> M+4920 * n <= 2000000 -> LI (N+41 * n) (M+4920 * n) (zde n l).1 /\ Rcv.Small (zde n l).1.receiver
 | 0,_,_,_,h,_,hs,_,_=>⟨h,hs⟩
 | n+1,N,M,l,h,hl,hs,h1,h2=>by
  cases hb:busy l with
  | false =>
   rw [zhl (.inr hb)]
   exact ⟨⟨h.snd.mono (by omega) (by omega),h.rcv.more (by omega),by omega,h.way,h.bytes⟩,hs⟩
  | true =>
   rw [zib hb]
   have:=zua n (zmb h (by omega) (by omega)) (zot h hl (by omega) (by omega)) (zro h hs (by omega) (by omega)) (by omega) (by omega)
   rw [show N+41 * (n+1)=N+41+41 * n by omega,show M+4920 * (n+1)=M+4920+4920 * n by omega];exact this
theorem zcz {N M:Nat} (l:Line) (h:LI N M l) (hsl:Snd.SL l.sender) (h1:N+16400 <= 2 ^ 20) (h2:M+1968000 <= 2000000):FunOK Tryz.prog 24 [l.hv] zad (.tup [(zde 400 l).1.hv,i64 (zde 400 l).2]) zad:=by
 refine zai mixed Tryz.func24 (by decide) ?_
 generalize hT:zde 400 l=T
 conv=>whnf
 (refine cP ?_;refine dL (zci l h) ?_)
 refine ⟨{ x:Nat × Line // x.1 <= 400 /\ ((zde (400 - x.1) x.2).1=T.1 /\ (zde (400 - x.1) x.2).2+x.1=T.2) /\ LI (N+41 * x.1) (M+4920 * x.1) x.2 /\ Snd.SL x.2.sender },fun | ⟨(k,y),_⟩=>hs 28 [(1,.ptr 1 0),(2,.ptr 2 0),(4,.ptr 4 0),(5,i64 k)] [(1,lnL l),(2,.live (.cells 40 zeroL)),(4,lnL y)],fun x=>400 - x.1.1,⟨(0,l),by omega,by rw [<- hT];exact ⟨rfl,rfl⟩,h,hsl⟩,?_,?_⟩
 . exact (hle_Q [(1,some 1),(2,some 2),(4,some 4)])
 rintro ⟨⟨k,y⟩,k1,k2,k3,k4⟩
 dsimp only at k1 k2 k3 k4
 refine zbh fun Q hQ=>?_
 conv=>whnf
 have pc:=Snd.ymq y.sender
 by_cases c1:k < 400
 case neg =>
  have hk:k=400:=by omega
  rw [hk,zhl (.inl (by omega))] at k2
  refine zab (decide_eq_false (by omega)) ?_;conv=>whnf
  exact yy54
 refine zac (decide_eq_true (by omega)) ?_;conv=>whnf
 (refine cL ?_;refine dLm pc ?_)
 have hb0:busy y=(!(Snd.calm y.sender) || decide (0 < y.way.length)):=rfl
 cases hc:Snd.calm y.sender with
 | false =>
  conv=>whnf
  have hbz:busy y=true:=by rw [hb0,hc];rfl
  exact yy38
 | true =>
 conv=>whnf
 by_cases c2:0 < y.way.length
 case pos =>
  have hbz:busy y=true:=by rw [hb0,hc,decide_eq_true c2];rfl
  rw [show decide (((y.way.map Packet.row).length:Int) > 0)=true from decide_eq_true (by rw [List.length_map];omega)]
  conv=>whnf
  exact yy38
 case neg =>
  have hbz:busy y=false:=by rw [hb0,hc,decide_eq_false c2];rfl
  rw [show decide (((y.way.map Packet.row).length:Int) > 0)=false from decide_eq_false (by rw [List.length_map];omega)]
  conv=>whnf
  rw [zhl (.inr hbz)] at k2
  exact yy54
theorem ybn {N M:Nat} (l:Line) (h:LI N M l) (hsl:Snd.SL l.sender) (h1:N+16400 <= 2 ^ 20) (h2:M+1968000 <= 2000000):FunOK Tryz.prog 50 [l.hv] zad (.tup [(zde 400 l).1.hv,i64 (zde 400 l).2]) zad:=by
 refine zai mixed Tryz.func50 (by decide) ?_
 generalize hT:zde 400 l=T
 conv=>whnf
 refine ⟨{ x:Nat × Line // x.1 <= 400 /\ ((zde (400 - x.1) x.2).1=T.1 /\ (zde (400 - x.1) x.2).2+x.1=T.2) /\ LI (N+41 * x.1) (M+4920 * x.1) x.2 /\ Snd.SL x.2.sender },fun | ⟨(k,y),_⟩=>hs 29 [(1,.ptr 1 0),(2,.ptr 2 0),(4,i64 k)] [(1,lnL y),(2,.live (.cells 40 zeroL))],fun x=>400 - x.1.1,⟨(0,l),by omega,by rw [<- hT];exact ⟨rfl,rfl⟩,h,hsl⟩,?_,?_⟩
 . exact (hle_Q [(1,some 1),(2,some 2)])
 rintro ⟨⟨k,y⟩,k1,k2,k3,k4⟩
 dsimp only at k1 k2 k3 k4
 refine zbh fun Q hQ=>?_
 conv=>whnf
 have hb0:=yrz y
 have hw:=k3.way
 have hq:=k3.snd.waits
 have hcf:=Snd.zca k3.snd.cfg
 have ho:=k3.snd.fit.out.len
 by_cases c1:k < 400
 case neg =>
  have hk:k=400:=by omega
  rw [hk,zhl (.inl (by omega))] at k2
  refine zab (decide_eq_false (by omega)) ?_;conv=>whnf
  exact yy54
 refine zac (decide_eq_true (by omega)) ?_;conv=>whnf
 refine zam (z:=((y.way.map Packet.row).length:Int)+((y.sender.queue.map Queued.row).length:Int)) (W_fit (by rw [List.length_map,List.length_map];omega) (by rw [List.length_map,List.length_map];omega)) ?_;conv=>whnf
 refine zam (z:=((y.way.map Packet.row).length:Int)+((y.sender.queue.map Queued.row).length:Int)+((y.sender.out.map Sent.row).length:Int)) (W_fit (by rw [List.length_map,List.length_map,List.length_map];omega) (by rw [List.length_map,List.length_map,List.length_map];omega)) ?_;conv=>whnf
 by_cases c2:0 < y.way.length+y.sender.queue.length+y.sender.out.length
 case pos =>
  have hbz:busy y=true:=by rw [hb0];exact decide_eq_true c2
  rw [show decide (((y.way.map Packet.row).length:Int)+((y.sender.queue.map Queued.row).length:Int)+((y.sender.out.map Sent.row).length:Int) > 0)=true from decide_eq_true (by rw [List.length_map,List.length_map,List.length_map];omega)]
  conv=>whnf
  have hk4:k < 400:=by omega
  obtain ⟨n,hn⟩:∃ n,400 - k=n+1:=⟨400 - k - 1,by omega⟩
  rw [hn,zib hbz] at k2
  dsimp only at k2
  have hli:=zmb k3 (by omega) (by omega)
  have hsl2:=zot k3 k4 (by omega) (by omega)
  have pr:=zrp y k3 k4 (by omega) (by omega)
  generalize round y=z at k2 hli hsl2 pr
  (try (refine hcut.go ?_;conv=>whnf))
  (refine cP ?_;refine dL pr ?_)
  refine sF ?_
  refine hQ _ _ ?_;conv=>whnf
  exact ⟨⟨(k+1,z),by omega,by dsimp only;rw [show 400 - (k+1)=n by omega];exact ⟨k2.1,by omega⟩,by dsimp only;rw [show N+41 * (k+1)=N+41 * k+41 by omega,show M+4920 * (k+1)=M+4920 * k+4920 by omega];exact hli,hsl2⟩,(hle_Q [(1,some 1),(2,some 2)]),by show 400 - (k+1) < 400 - k;omega⟩
 case neg =>
  have hbz:busy y=false:=by rw [hb0];exact decide_eq_false c2
  rw [show decide (((y.way.map Packet.row).length:Int)+((y.sender.queue.map Queued.row).length:Int)+((y.sender.out.map Sent.row).length:Int) > 0)=false from decide_eq_false (by rw [List.length_map,List.length_map,List.length_map];omega)]
  conv=>whnf
  rw [zhl (.inr hbz)] at k2
  exact yy54
end Ln
namespace Ln
open Ser
theorem fairtells (c:Config) (l:List Step) (hb:∀ x ∈ l,x.message.data.length < 2 ^ 38):FunOK Tryz.prog 7 [c.hv,stps l] zad (hbool true) zad:=by
 refine zai mixed Tryz.func7 (by decide) ?_
 conv=>whnf
 by_cases c1:Snd.wrgS c=0
 case neg =>
  ((refine zbw ?_;(conv=>whnf);refine ⟨_,zrv c l c1,rfl,?_⟩;conv=>whnf);try (refine hcut.go ?_;conv=>whnf))
 have pb:=ydv c l c1 hb
 have hlt:(l.take 200).length <= 200:=by rw [List.length_take];omega
 have hli:LI 200 24000 (play (newL c) (l.take 200)).1:=by
  have:=yha (l.take 200) (zxc c1) (by omega) (by omega)
  exact ⟨this.snd.mono (by omega) (by omega),this.rcv.more (by omega),by omega,this.way,this.bytes⟩
 have hsl:=ype (l.take 200) (zxc c1) (Snd.ypb c1) (by omega) (by omega)
 have hsm:=ztz (l.take 200) (zxc c1) (Rcv.yok c) (by omega) (by omega)
 generalize play (newL c) (l.take 200)=P at pb hli hsl hsm
 obtain ⟨y,az⟩:=P
 dsimp only at pb hli hsl hsm
 have hnp:=hli.snd.npaths
 have hcf:=Snd.zca hli.snd.cfg
 have p1:=zne y hli hsl (by omega) (by omega)
 have p2:=zrp y hli hsl (by omega) (by omega)
 have p3:=zrn (zmb hli (by omega) (by omega)) (zro hli hsm (by omega) (by omega))
 have p4:=zcz y hli hsl (by omega) (by omega)
 have p5:=ybn y hli hsl (by omega) (by omega)
 have hst:=zua 400 hli hsl hsm (by omega) (by omega)
 have p6:=zrn hst.1 hst.2
 generalize round y=z at p1 p2 p3
 generalize zde 400 y=T at p4 p5 p6
 obtain ⟨t,k⟩:=T
 dsimp only at p4 p5 p6
 (refine cP ?_;refine dL pb ?_)
 refine zab (beq_eq_false_iff_ne.2 (by rw [List.length_map];omega)) ?_;conv=>whnf
 (try (refine hcut.go ?_;conv=>whnf))
 (refine cP ?_;refine dLm p1 ?_)
 (refine cP ?_;refine dLm p2 ?_)
 (refine cL ?_;refine dLm p3 ?_)
 refine sD ?_
 (try (refine hcut.go ?_;conv=>whnf))
 (refine cP ?_;refine dL p4 ?_)
 (refine cP ?_;refine dL p5 ?_)
 rw [show ((k:Int) == (k:Int))=true from beq_self_eq_true _]
 conv=>whnf
 ((refine zar ?_;(conv=>whnf);refine ⟨_,p6,rfl,?_⟩;conv=>whnf);try (refine hcut.go ?_;conv=>whnf))
end Ln
end Go.HL
