/- Walks, contracts and laws of the law's functions: part 6. No condition. -/
import Derived.Test.YticmofoeecjnhaaGreatMe
set_option linter.unusedSimpArgs false
namespace Go.HL
open Go.Proofs
namespace Gh
open Ser Snd
set_option maxHeartbeats 4000000
set_option maxRecDepth 100000
set_option linter.unusedSimpArgs false
section
variable {c:Config} {L:List Message} {H:List Prt} {A:Nat -> Prop} {s:Sender} {N:Nat}
theorem zyy {P:Int} {s:Sender} {m:Queued} (hP:1 <= P) (hc:s.config.part=P) (h0:0 <= m.parts) (hs:m.sent=m.parts * P) (hl:m.sent < m.message.data.length):zmi P m.message (cut s m (many s m)) /\ (cut s m (many s m)).data ≠ []:=by
 have hm0:0 <= m.parts * P:=Int.mul_nonneg h0 (by omega)
 have hdl:(m.message.data.drop m.sent.toNat).length=m.message.data.length - m.sent.toNat:=List.length_drop ..
 refine ⟨⟨h0,by show m.parts * P < _;omega,?_,?_⟩,?_⟩
 . show (m.message.data.drop m.sent.toNat).take (many s m).toNat=(m.message.data.drop (m.parts * P).toNat).take P.toNat
   rw [<- hs]
   unfold many
   split
   . rw [List.take_of_length_le (by omega),List.take_of_length_le (by omega)]
   . rw [hc]
 . show decide (m.sent+many s m=m.message.data.length)=decide ((m.message.data.length:Int) <= m.parts * P+P)
   rw [decide_eq_decide,<- hs]
   unfold many
   split <;> omega
 . intro h
   have h:(m.message.data.drop m.sent.toNat).take (many s m).toNat=[]:=h
   have:=congrArg List.length h
   rw [List.length_take,hdl,List.length_nil] at this
   unfold many at this
   split at this <;> omega
theorem zxx (s:Sender) (m:Queued) (hb:∀ n ∈ s.mids,0 <= n /\ n <= 2 ^ 30) (i:Nat):s.mids[i]?.getD 0 <= (zdd s m)[i]?.getD 0:=by
 unfold zdd
 split
 . unfold setAt
   split
   . exact Int.le_refl _
   . rename_i n hn
     by_cases e:midAt s m=i
     . subst e
       rw [List.getElem?_set_self (zcn hn),hn]
       have:=hb n (List.mem_of_getElem? hn)
       show n <= W (n+1)
       rw [W_fit (by omega) (by omega)];omega
     . rw [List.getElem?_set_ne e];exact Int.le_refl _
 . exact Int.le_refl _
theorem yge {s:Sender} {m:Queued} {n:Int} (h:n ∈ zdd s m) (hb:∀ n ∈ s.mids,0 <= n /\ n <= 2 ^ 30):n ∈ s.mids \/ n - 1 ∈ s.mids:=by
 unfold zdd at h
 split at h
 . unfold setAt at h
   split at h
   . exact .inl h
   . rename_i x hx
     rcases List.mem_or_eq_of_mem_set h with h | rfl
     . exact .inl h
     . right
       have:=hb x (List.mem_of_getElem? hx)
       show W (x+1) - 1 ∈ s.mids
       rw [W_fit (by omega) (by omega),show x+1 - 1=x by omega];exact List.mem_of_getElem? hx
 . exact .inl h
theorem yrz (h:GS c L H A s) (hs:SI N s) (hN:N <= 500) (hkeep:KI L s) {k:Nat} {m:Queued} (hm:s.queue[k]?=some m) (hfirst:m.id=s.sched.hand \/ ∀ q ∈ s.queue.take k,q.message.stream ≠ m.message.stream) :
 GS c L (H++[⟨m.id.toNat,cut s m (many s m)⟩]) A (cutS s k m) /\ (cut s m (many s m)).data ≠ []:=by
 have hmm:=List.mem_of_getElem? hm
 have hq:=hs.queue m hmm
 have hw:=zbo hs.cfg
 have hL:=hkeep.queue m hmm
 have hlen:=h.num hs
 have hcap:=h.few hs
 have hcu:=hs.cum
 rw [h.cfg] at hcu
 have hnx:=hs.next
 have hln:=h.len
 have q0:=hq.id0
 have q1:=hq.id1
 have q2:=hq.parts
 have q3:=hq.sent
 have q4:=hq.left
 have q5:=hq.st0
 have q6:=hq.st1
 have q7:=hq.fate
 have q8:=hq.few (by omega)
 have hP:s.config.part=c.part:=by rw [h.cfg]
 have hcf:s.config.first=c.first:=by rw [h.cfg]
 have hmids:∀ n ∈ s.mids,0 <= n /\ n <= 2 ^ 30:=fun n hn=>by have:=h.midn n hn;omega
 obtain ⟨hpo,hdne⟩:=zyy (P:=c.part) (s:=s) (m:=m) (by omega) hP q2 (by rw [<- hP];exact q3) q4
 have hms0:0 <= m.parts * s.config.part:=Int.mul_nonneg q2 (by omega)
 obtain ⟨n1,n2,n3⟩:=zll (s:=s) (m:=m) (by omega) (by omega) (by omega) q4 (by have:=hq.len2;omega)
 have hWn:W (s.next+1)=s.next+1:=W_fit (by omega) (by omega)
 have hWp:W (m.parts+1)=m.parts+1:=W_fit (by omega) (by omega)
 have hof:∀ x ∈ H,(x.id:Int)=m.id -> Of m x.chunk:=by
  intro x hx he
  obtain ⟨w,w1,w2,w3,-⟩:=h.hi.msg x hx
  rw [show x.id=m.id.toNat by omega,hL] at w1
  cases w1
  exact ⟨w2,w3⟩
 have hmc:∀ x:Prt,Of m x.chunk -> midC s x.chunk=midC s (cut s m (many s m)):=by
  intro x hx
  unfold midC
  rw [hx.1,hx.2];rfl
 have hma:midAt s m < s.mids.length:=by
  have:=hs.nmids
  unfold midAt
  split <;> omega
 -- what is so of the message's number in its row
 have hall:(∀ x ∈ H,Of m x.chunk -> (x.id:Int) <= m.id /\ ((x.id:Int) < m.id ↔ x.chunk.mid < midOf s m) /\ x.chunk.mid <= midOf s m) /\ (∀ x ∈ H,(x.id:Int)=m.id -> x.chunk.part < m.parts) /\ (0 <= midOf s m /\ midOf s m <= H.length) /\
  (∀ j:Nat,(j:Int) < m.parts -> ∃ y ∈ H,(y.id:Int)=m.id /\ y.chunk.part=j /\ y.chunk.data ≠ []) /\ midOf s m < midC (cutS s k m) (cut s m (many s m)) /\
  (∀ (i:Nat) q,i ≠ k -> s.queue[i]?=some q -> Of q (cut s m (many s m)) -> (q.mid < 0 -> m.id < q.id) /\ (0 <= q.mid -> m.id <= q.id)):=by
  rcases Int.lt_or_le m.mid 0 with hneg | hge
  . obtain ⟨f1,f2⟩:=h.fresh m hmm hneg
    have hmu:midOf s m=midC s (cut s m (many s m)):=by unfold midOf;rw [if_pos hneg];rfl
    have hget:s.mids[midAt s m]?=some (midOf s m):=by
     obtain ⟨z,hz⟩:∃ z,s.mids[midAt s m]?=some z:=⟨_,List.getElem?_eq_getElem hma⟩
     rw [hz];unfold midOf;rw [if_pos hneg,hz];rfl
    have hmb:=h.midn _ (List.mem_of_getElem? hget)
    refine ⟨fun x hx hox=>?_,fun x hx he=>?_,hmb,fun j hj=>?_,?_,fun i q hik hqi hoq=>?_⟩
    . have e1:=f2 x hx hox
      have e2:=h.mids x hx
      rw [hmc x hox,<- hmu] at e2
      omega
    . have e1:=f2 x hx (hof x hx he);omega
    . omega
    . show midOf s m < (zdd s m)[midAt s m]?.getD 0
      unfold zdd
      rw [if_pos hneg]
      unfold setAt
      simp only [hget]
      rw [List.getElem?_set_self hma]
      show _ < W (midOf s m+1)
      rw [W_fit (by omega) (by omega)];omega
    . have hno:∀ q ∈ s.queue.take k,q.message.stream ≠ m.message.stream:=by
       rcases hfirst with hf | hf
       . have:=h.hand m hmm hf;omega
       . exact hf
      have hlt:m.id < q.id:=by
       rcases Nat.lt_or_ge i k with hlt | hge
       . exact absurd hoq.1.symm (hno q (List.mem_of_getElem? (i:=i) (by rw [List.getElem?_take,if_pos hlt];exact hqi)))
       . exact yaf h.rise hm hqi (by omega)
      exact ⟨fun _=>hlt,fun _=>by omega⟩
  . have b:=h.begun m hmm hge
    obtain ⟨y0,y1,y2,y3,y4⟩:=b.one
    have hmu:midOf s m=m.mid:=by unfold midOf;rw [if_neg (by omega)]
    have hmb:=h.hi.mid y0 y1
    refine ⟨fun x hx hox=>?_,b.part,by rw [hmu];omega,b.all,?_,fun i q hik hqi hoq=>?_⟩
    . have e1:=b.top x hx hox
      have e2:Cls x.chunk y0.chunk:=⟨hox.1.trans y4.1.symm,hox.2.trans y4.2.symm⟩
      have e3:=h.hi.key x hx y0 y1 e2
      have e4:=h.hi.key y0 y1 x hx e2.symm
      rw [hmu,<- y3,<- y2];omega
    . have e1:=h.mids y0 y1
      rw [hmc y0 y4] at e1
      have e2:=zxx s m hmids (midAt s m)
      rw [hmu,<- y3]
      exact Int.lt_of_lt_of_le e1 e2
    . have hoy:Of q y0.chunk:=⟨y4.1.trans hoq.1,y4.2.trans hoq.2⟩
      refine ⟨fun hqn=>?_,fun hqn=>?_⟩
      . have:=(h.fresh q (List.mem_of_getElem? hqi) hqn).2 y0 y1 hoy;omega
      . have:=(h.begun q (List.mem_of_getElem? hqi) hqn).top y0 y1 hoy;omega
 obtain ⟨ha,hb,hc3,hd,he5,hf⟩:=hall
 have htag:tag (midOf s m)=midOf s m:=by unfold tag;omega
 have hnew:HI c L (H++[⟨m.id.toNat,cut s m (many s m)⟩]):=by
  refine h.hi.push ⟨rfl,?_,rfl,rfl,rfl⟩ ⟨m.message,hL,rfl,rfl,fun _=>hpo⟩ ?_ (fun x hx hxc=>?_) (fun x hx he=>?_)
  . show tag s.next=_;rw [<- hln]
  . show 0 <= tag (midOf s m) /\ tag (midOf s m) <= _;rw [htag];exact hc3
  . have:=ha x hx ⟨hxc.1,hxc.2⟩
    show x.id <= m.id.toNat /\ (x.id < m.id.toNat ↔ x.chunk.mid < tag (midOf s m)) /\ x.chunk.mid <= tag (midOf s m)
    rw [htag];omega
  . have he:x.id=m.id.toNat:=he
    exact hb x hx (by omega)
 have hmem:∀ x ∈ H,x ∈ H++[(⟨m.id.toNat,cut s m (many s m)⟩:Prt)]:=fun x hx=>List.mem_append_left _ hx
 have hlast:(⟨m.id.toNat,cut s m (many s m)⟩:Prt) ∈ H++[(⟨m.id.toNat,cut s m (many s m)⟩:Prt)]:=by simp
 generalize hM:({ m with mid:=midOf s m,sent:=m.sent+many s m,parts:=W (m.parts+1) }:Queued)=M
 have M1:M.id=m.id:=by rw [<- hM]
 have M2:M.message=m.message:=by rw [<- hM]
 have M3:M.mid=midOf s m:=by rw [<- hM]
 have M4:M.parts=m.parts+1:=by rw [<- hM];exact hWp
 have hqueue:(cutS s k m).queue=if decide (m.sent+many s m=m.message.data.length) then s.queue.eraseIdx k else s.queue.set k M:=by rw [<- hM];rfl
 have hq':∀ q ∈ (cutS s k m).queue,(q=M /\ m.sent+many s m ≠ m.message.data.length) \/ ∃ i,i ≠ k /\ s.queue[i]?=some q:=by
  intro q hq
  rw [hqueue] at hq
  split at hq
  . exact .inr (mem_erase' hq)
  . rename_i c1
    rcases mem_set' hq with h1 | h1
    . exact .inl ⟨h1,by simpa using c1⟩
    . exact .inr h1
 have hne:∀ (i:Nat) q,i ≠ k -> s.queue[i]?=some q -> q.id ≠ m.id:=by
  intro i q hik hqi
  rcases Nat.lt_or_ge i k with hlt | hge
  . have:=yaf h.rise hqi hm hlt;omega
  . have:=yaf h.rise hm hqi (by omega);omega
 have hofq:∀ q:Queued,Of q (cut s m (many s m)) -> ∀ x:Prt,Of q x.chunk ↔ Of m x.chunk:=fun q hq x=>by
  have e1:m.message.stream=q.message.stream:=hq.1
  have e2:m.message.ordered=q.message.ordered:=hq.2
  unfold Of;rw [e1,e2]
 refine ⟨⟨h.cfg,hnew,?_,fun j x hx=>?_,fun x hx hxd=>?_,fun x hx h4=>?_,fun j x hx h2=>?_,fun i y hy hle=>?_,fun q hq=>?_,?_,fun q hq hh=>?_,?_,fun q hq hmn=>?_,fun q hq hmn=>?_,fun y hy=>?_,fun n hn=>?_,fun id hid h3=>?_,fun id h2 i y hy he=>?_⟩,hdne⟩
 . show c.first+((H++[_]).length:Int)=W (s.next+1)
   rw [hWn,List.length_append,List.length_singleton];push_cast;omega
 . have hx:(s.out++[_])[j]?=some x:=hx
   rcases zda hx with hx | ⟨rfl,rfl⟩
   . obtain ⟨y,e1,e2⟩:=h.out j x hx
     exact ⟨y,zeu e1,e2⟩
   . exact ⟨⟨m.id.toNat,cut s m (many s m)⟩,by show (H++[_])[(s.cum+1 - c.first).toNat+s.out.length]?=_;rw [hlen];exact ykr _ _,by show m.id=(m.id.toNat:Int);omega,rfl⟩
 . have hx:x ∈ s.out++[_]:=hx
   rcases List.mem_append.1 hx with hx | hx
   . exact h.stop x hx hxd
   . rw [List.mem_singleton] at hx;subst hx;exact absurd hxd hdne
 . have hx:x ∈ s.out++[_]:=hx
   rcases List.mem_append.1 hx with hx | hx
   . exact h.gone x hx h4
   . rw [List.mem_singleton] at hx;subst hx;cases h4
 . have hx:(s.out++[_])[j]?=some x:=hx
   rcases zda hx with hx | ⟨rfl,rfl⟩
   . exact h.come j x hx h2
   . cases h2
 . rcases zda hy with hy | ⟨rfl,rfl⟩
   . exact h.done i y hy hle
   . have hle:c.first+(H.length:Int) <= s.cum:=hle
     omega
 . rcases hq' q hq with ⟨rfl,-⟩ | ⟨i,-,hi⟩
   . omega
   . exact h.ids q (List.mem_of_getElem? hi)
 . rw [hqueue]
   split
   . exact h.rise.sublist (List.eraseIdx_sublist _ _)
   . have e:(s.queue.set k M).map Queued.id=s.queue.map Queued.id:=by
      apply List.ext_getElem?
      intro i
      rw [List.getElem?_map,List.getElem?_map]
      by_cases e:k=i
      . subst e;rw [List.getElem?_set_self (zcn hm),hm];show some M.id=some m.id;rw [M1]
      . rw [List.getElem?_set_ne e]
     have h1:(s.queue.map Queued.id).Pairwise (· < ·):=List.pairwise_map.2 h.rise
     rw [<- e] at h1
     exact List.pairwise_map.1 h1
 . have hh:q.id=if decide (m.sent+many s m=m.message.data.length) then -1 else m.id:=hh
   rcases hq' q hq with ⟨rfl,-⟩ | ⟨i,hik,hi⟩
   . rw [M3];exact hc3.1
   . have e1:=h.ids q (List.mem_of_getElem? hi)
     have e2:=hne i q hik hi
     split at hh
     . omega
     . exact absurd hh e2
 . show (if decide (m.sent+many s m=m.message.data.length) then -1 else m.id) < (L.length:Int)
   have:=hkeep.len
   split <;> omega
 . rcases hq' q hq with ⟨rfl,-⟩ | ⟨i,hik,hi⟩
   . rw [M3] at hmn;omega
   . obtain ⟨f1,f2⟩:=h.fresh q (List.mem_of_getElem? hi) hmn
     refine ⟨f1,fun y hy hoy=>?_⟩
     rcases List.mem_append.1 hy with hy | hy
     . exact f2 y hy hoy
     . rw [List.mem_singleton] at hy;subst hy
       have:=(hf i q hik hi hoy).1 hmn
       show (m.id.toNat:Int) < q.id;omega
 . rcases hq' q hq with ⟨rfl,-⟩ | ⟨i,hik,hi⟩
   . refine ⟨by omega,⟨_,hlast,by rw [M1];show (m.id.toNat:Int)=m.id;omega,by rw [M3];exact htag,by unfold Of;rw [M2];exact ⟨rfl,rfl⟩⟩,fun y hy hoy=>?_,fun y hy he=>?_,fun j hj=>?_⟩
     . unfold Of at hoy
       rw [M2] at hoy
       rw [M1]
       rcases List.mem_append.1 hy with hy | hy
       . exact (ha y hy hoy).1
       . rw [List.mem_singleton] at hy;subst hy;show (m.id.toNat:Int) <= m.id;omega
     . rw [M1] at he
       rw [M4]
       rcases List.mem_append.1 hy with hy | hy
       . have:=hb y hy he;omega
       . rw [List.mem_singleton] at hy;subst hy;show m.parts < m.parts+1;omega
     . rw [M4] at hj
       rw [M1]
       rcases Int.lt_or_le (j:Int) m.parts with hlt | hge
       . obtain ⟨y,e1,e2⟩:=hd j hlt
         exact ⟨y,hmem y e1,e2⟩
       . exact ⟨_,hlast,by show (m.id.toNat:Int)=m.id;omega,by show m.parts=j;omega,hdne⟩
   . have b:=h.begun q (List.mem_of_getElem? hi) hmn
     obtain ⟨z0,z1,z2⟩:=b.one
     refine ⟨b.some,⟨z0,hmem z0 z1,z2⟩,fun y hy hoy=>?_,fun y hy he=>?_,fun j hj=>?_⟩
     . rcases List.mem_append.1 hy with hy | hy
       . exact b.top y hy hoy
       . rw [List.mem_singleton] at hy;subst hy
         have:=(hf i q hik hi hoy).2 hmn
         show (m.id.toNat:Int) <= q.id;omega
     . rcases List.mem_append.1 hy with hy | hy
       . exact b.part y hy he
       . rw [List.mem_singleton] at hy;subst hy
         have he:(m.id.toNat:Int)=q.id:=he
         exact absurd (by omega) (hne i q hik hi)
     . obtain ⟨y,e1,e2⟩:=b.all j hj
       exact ⟨y,hmem y e1,e2⟩
 . rcases List.mem_append.1 hy with hy | hy
   . exact Int.lt_of_lt_of_le (h.mids y hy) (zxx s m hmids _)
   . rw [List.mem_singleton] at hy;subst hy
     show tag (midOf s m) < _
     rw [htag];exact he5
 . have hn:n ∈ zdd s m:=hn
   rw [List.length_append,List.length_singleton]
   rcases yge hn hmids with hn | hn
   . have:=h.midn n hn;push_cast;omega
   . have:=h.midn _ hn;push_cast;omega
 . rcases h.whole id hid h3 with ⟨q,e1,e2⟩ | e1
   . obtain ⟨i,hi⟩:=List.getElem?_of_mem e1
     by_cases hik:i=k
     . subst hik
       rw [hm] at hi
       cases hi
       by_cases hov:m.sent+many s m=m.message.data.length
       . right
         intro w hw2 j hj
         rw [show id=m.id.toNat by omega,hL] at hw2
         cases hw2
         rcases Int.lt_or_le (j:Int) m.parts with hlt | hge
         . obtain ⟨y,y1,y2,y3⟩:=hd j hlt
           exact ⟨y,hmem y y1,by omega,y3⟩
         . have hjp:(j:Int)=m.parts:=by
            apply Classical.byContradiction
            intro hc
            have e5:(m.parts+1) * c.part <= j * c.part:=Int.mul_le_mul_of_nonneg_right (by omega) (by omega)
            have e6:(m.parts+1) * c.part=m.parts * c.part+c.part:=by rw [Int.add_mul,Int.one_mul]
            have e7:many s m <= c.part:=by unfold many;rw [<- hP];split <;> omega
            have e8:m.sent=m.parts * c.part:=by rw [<- hP];exact q3
            omega
           exact ⟨_,hlast,by show m.id.toNat=id;omega,by show m.parts=j;omega,hdne⟩
       . left
         refine ⟨M,?_,by omega⟩
         rw [hqueue,if_neg (by simpa using hov)]
         exact List.mem_of_getElem? (List.getElem?_set_self (zcn hm))
     . left
       refine ⟨q,?_,e2⟩
       rw [hqueue]
       split
       . refine List.mem_eraseIdx_iff_getElem?.2 ⟨i,hik,hi⟩
       . exact List.mem_of_getElem? (i:=i) (by rw [List.getElem?_set_ne (fun h=>hik h.symm)];exact hi)
   . exact .inr e1.more
 . have h2:s.fates[id]?=some 2:=h2
   rcases zda hy with hy | ⟨rfl,rfl⟩
   . exact h.told id h2 i y hy he
   . have he:m.id.toNat=id:=he
     rw [<- he,q7] at h2;cases h2
theorem yqr {p q:Pump} (h:GS c L H A p.s) (hs:SI N p.s) (hN:N <= 500) (hk:KI L p.s) (ho:OutOK c H A p) (hq:next p=some q):∃ E,GS c L (H++E) A q.s /\ OutOK c (H++E) A q /\ q.s.fates=p.s.fates:=by
 obtain ⟨s,o⟩:=p
 unfold next at hq
 dsimp only at hq h hs hk
 split at hq
 . cases hq
 rename_i c1
 obtain ⟨k,hkl,hk1,hk2⟩:=ygc (turns:=s.config.turns) (s:=s.sched) (q:=s.queue) (by show 0 <= zde s;omega)
 have hkn:(zde s).toNat=k:=by show (Sch.next _ _ _).toNat=k;rw [hk1];omega
 rw [hkn,List.getElem?_eq_getElem hkl] at hq
 dsimp only at hq
 split at hq
 . cases hq
 . cases hq
   rw [zkp]
   obtain ⟨g1,g2⟩:=yrz h hs hN hk (List.getElem?_eq_getElem hkl) hk2
   obtain ⟨g3,g4,g5⟩:=yol (p:=⟨cutS s k s.queue[k],o⟩) (i:=s.out.length) (path:=Snd.choose s) (x:=⟨s.next,(s.queue[k]).id,0,0,0,0,(s.queue[k]).came,(s.queue[k]).message.life,(s.queue[k]).message.tries,cut s s.queue[k] (many s s.queue[k])⟩) g1 (fun l hl ch hc=>(ho l hl ch hc).more (fun _ h=>h) (fun _ h=>h)) (by show (s.out++[_])[s.out.length]?=_;simp) g2
   exact ⟨_,g3,g4,g5⟩
theorem ydq:∀ (n:Nat) {H:List Prt} {p:Pump},GS c L H A p.s -> SI N p.s -> N <= 500 -> KI L p.s -> OutOK c H A p -> ∃ E,GS c L (H++E) A (nexts n p).s /\ OutOK c (H++E) A (nexts n p) /\ (nexts n p).s.fates=p.s.fates
 | 0,H,p,h,_,_,_,ho=>⟨[],by rw [List.append_nil];exact ⟨h,ho,rfl⟩⟩
 | n+1,H,p,h,hs,hN,hk,ho=>by
  rw [nexts]
  cases hq:next p with
  | none=>exact ⟨[],by rw [List.append_nil];exact ⟨h,ho,rfl⟩⟩
  | some q =>
   obtain ⟨E,g1,g2,g3⟩:=yqr h hs hN hk ho hq
   obtain ⟨E2,k1,k2,k3⟩:=ydq n g1 (yjm hs hq) hN (yjq hk hq) g2
   exact ⟨E++E2,by rw [<- List.append_assoc];exact ⟨k1,k2,k3.trans g3⟩⟩
theorem yag {F:Nat -> Prop} (hi:HI c L H) {ch:Chunk} (h:Sends c H A F ch):Sends c H A F (Chk.clean ch):=by
 rcases h with ⟨i,y,h1,h2,h3⟩ | ⟨h1,n,h2,h3,h4,h5,h6⟩
 . obtain ⟨t1,-,t3,t4,t5⟩:=hi.tag i y h1
   refine .inl ⟨i,y,h1,?_,?_⟩
   . rw [h2]
     unfold Chk.clean
     rw [if_pos t1]
     generalize y.chunk=z at t1 t3 t4 t5
     obtain ⟨a,b,d,e,f,g,k,l,m,n,o⟩:=z
     dsimp only at t3 t4 t5 ⊢
     subst t3 t4 t5;rfl
   . unfold Chk.clean
     rw [h2,if_pos t1]
     rw [h2] at h3;exact h3
 . refine .inr ⟨by rw [Chk.yff];exact h1,n,h2,h3,by rw [Chk.yip];exact h4,h5,?_⟩
   have:(Chk.clean ch).skips=ch.skips:=by unfold Chk.clean;rw [if_neg (by omega),if_neg (by omega)]
   rw [this];exact h6
theorem zxy {l:List Chunk} {most:Int} (h:(Pck.pbytes l most).2=0):∀ ch ∈ (Pck.pparse (Pck.pbytes l most).1).1,∃ d ∈ l,ch=Chk.clean d:=by
 obtain ⟨h1,h2,h3,h4⟩:=Pck.pb_ok h
 rw [h4]
 intro ch hc
 unfold Pck.pparse at hc
 split at hc
 . cases hc
 . rw [Pck.zmj (Nat.le_refl _) h2] at hc
   obtain ⟨d,hd,rfl⟩:=List.mem_map.1 hc
   exact ⟨d,hd,rfl⟩
theorem ynj {most path:Int} {l:List Chunk} {p:Packet} (h:p ∈ pack1 most path l):p.back=false /\ p.path=path /\ ∀ ch ∈ (Pck.pparse p.bytes).1,∃ d ∈ l,ch=Chk.clean d:=by
 unfold pack1 at h
 split at h
 . rename_i c1
   rw [List.mem_singleton] at h
   subst h
   refine ⟨rfl,rfl,fun ch hc=>?_⟩
   obtain ⟨d,hd,e⟩:=zxy c1 ch hc
   exact ⟨d,List.mem_of_mem_take hd,e⟩
 . cases h
theorem ydr {most path:Int}:∀ {n:Nat} {l:List Chunk} {p:Packet},p ∈ packN most path n l -> p.back=false /\ p.path=path /\ ∀ ch ∈ (Pck.pparse p.bytes).1,∃ d ∈ l,ch=Chk.clean d
 | 0,l,p,h=>by cases h
 | n+1,l,p,h=>by
  unfold packN at h
  split at h
  . cases h
  . rcases List.mem_append.1 h with h | h
    . exact ynj h
    . obtain ⟨h1,h2,h3⟩:=ydr h
      refine ⟨h1,h2,fun ch hc=>?_⟩
      obtain ⟨d,hd,e⟩:=h3 ch hc
      exact ⟨d,List.mem_of_mem_drop hd,e⟩
theorem zpi {most:Int}:∀ {ls:List (List Chunk)} {k:Nat} {p:Packet},p ∈ zbk most k ls -> p.back=false /\ ∀ ch ∈ (Pck.pparse p.bytes).1,∃ l ∈ ls,∃ d ∈ l,ch=Chk.clean d
 | [],k,p,h=>by cases h
 | l :: ls,k,p,h=>by
  unfold zbk at h
  rcases List.mem_append.1 h with h | h
  . obtain ⟨h1,-,h2⟩:=ydr h
    exact ⟨h1,fun ch hc=>⟨l,by simp,h2 ch hc⟩⟩
  . obtain ⟨h1,h2⟩:=zpi h
    refine ⟨h1,fun ch hc=>?_⟩
    obtain ⟨l',k1,k2⟩:=h2 ch hc
    exact ⟨l',by simp [k1],k2⟩
theorem yqs (h:GS c L H A s) (hs:SI N s) (hN:N <= 500) (hk:KI L s):∃ E,GS c L (H++E) A (pump s).1 /\ (∀ k,gF s k -> gF (pump s).1 k) /\ ∀ p ∈ (pump s).2,p.back=false /\ ∀ ch ∈ (Pck.pparse p.bytes).1,Sends c (H++E) A (gF (pump s).1) ch:=by
 obtain ⟨E,g1,g2⟩:=ykt h hs hN
 have s1:=(zwo hs).1
 have k1:=zwt hk hs
 have o1:OutOK c (H++E) A ⟨expire s,List.replicate s.paths.length []⟩:=by
  intro l hl ch hc
  have:=List.eq_of_mem_replicate hl
  subst this;cases hc
 obtain ⟨g3,o2,f1⟩:=ygd (p:=⟨expire s,List.replicate s.paths.length []⟩) g1 s1 o1
 have s2:=zrb (o:=List.replicate s.paths.length []) s1
 have k2:=zrd (o:=List.replicate s.paths.length []) k1
 obtain ⟨g4,o3,f2⟩:=zxw (path:=Snd.choose (forward ⟨expire s,List.replicate s.paths.length []⟩).s) (List.range (forward ⟨expire s,List.replicate s.paths.length []⟩).s.out.length) g3 o2
 have s3:=ycr s2
 have k3:=zoy (path:=Snd.choose (forward ⟨expire s,List.replicate s.paths.length []⟩).s) (List.range (forward ⟨expire s,List.replicate s.paths.length []⟩).s.out.length) k2
 obtain ⟨E2,g5,o4,f3⟩:=ydq 61 g4 s3 hN k3 o3
 have hfa:(pump s).1.fates=(expire s).fates:=f3.trans (f2.trans f1)
 refine ⟨E++E2,?_,fun k hk=>?_,fun p hp=>?_⟩
 . rw [<- List.append_assoc]
   exact g5.congr rfl rfl rfl rfl rfl rfl rfl rfl
 . have:=g2 k hk
   unfold gF at this ⊢
   rw [hfa];exact this
 . obtain ⟨b1,b2⟩:=zpi hp
   refine ⟨b1,fun ch hc=>?_⟩
   obtain ⟨l,l1,d,d1,rfl⟩:=b2 ch hc
   rw [<- List.append_assoc]
   exact yag g5.hi (o4 l l1 d d1)
end
end Gh
end Go.HL
namespace Go.HL
open Go.Proofs
namespace Gh
open Ser Snd
set_option maxHeartbeats 4000000
set_option maxRecDepth 100000
set_option linter.unusedSimpArgs false
def zgp (c:Config) (H:List Prt) (A F:Nat -> Prop) (ch:Chunk):Prop:=∃ n:Int,c.first - 1 <= n /\ n < c.first+H.length /\ tag ch.tag=tag n /\ (∀ (i:Nat) y,H[i]?=some y -> c.first+i <= n -> A i \/ F y.id) /\
 (∀ t ∈ ch.spans,n+t.hi < c.first+H.length) /\ ∀ i:Nat,n < c.first+i -> has ch.spans (c.first+i - n)=true -> A i
section
variable {c:Config} {L:List Message} {H:List Prt} {A F:Nat -> Prop} {s:Sender} {N:Nat}
theorem zgp.more {E:List Prt} {B G:Nat -> Prop} {ch:Chunk} (h:zgp c H A F ch) (hA:∀ i,A i -> B i) (hF:∀ i,F i -> G i):zgp c (H++E) B G ch:=by
 obtain ⟨n,h1,h2,h3,h4,h5,h6⟩:=h
 exact ⟨n,h1,by rw [List.length_append];push_cast;omega,h3,fun i y hy hle=>(h4 i y (yae hy (by omega)) hle).imp (hA i) (hF _),fun t ht=>by have:=h5 t ht;rw [List.length_append];push_cast;omega,fun i hlt hh=>hA i (h6 i hlt hh)⟩
theorem ykw (h:GS c L H A s) (hs:SI N s):GS c L H A (Snd.settle s):=by
 have hf:(Snd.settle s).fates=s.fates.mapIdx fun id f=>settled s id f:=rfl
 have hget:∀ k:Nat,(Snd.settle s).fates[k]?=(s.fates[k]?).map (settled s k):=fun k=>by rw [hf,List.getElem?_mapIdx]
 have h3:∀ k:Nat,s.fates[k]?=some 3 ↔ (Snd.settle s).fates[k]?=some 3:=by
  intro k
  rw [hget]
  cases hz:s.fates[k]? with
  | none=>simp
  | some f =>
   show some f=some 3 ↔ some (settled s k f)=some 3
   unfold settled
   split
   . rename_i c1;rw [c1.1];simp
   . rfl
 have hlen:=h.num hs
 have hcu:=hs.cum
 rw [h.cfg] at hcu
 refine ⟨h.cfg,h.hi,h.len,h.out,h.stop,fun x hx h4=>(h3 _).1 (h.gone x hx h4),h.come,fun i y hy hle=>(h.done i y hy hle).imp (fun z=>z) (h3 _).1,h.ids,h.rise,h.hand,h.handn,h.fresh,h.begun,h.mids,h.midn,fun id hid hne=>h.whole id hid fun h5=>hne ((h3 _).1 h5),fun id h2 i y hy he=>?_⟩
 rw [hget] at h2
 cases hz:s.fates[id]? with
 | none=>rw [hz] at h2;cases h2
 | some f =>
  rw [hz] at h2
  have h2:settled s id f=2:=by simpa using h2
  unfold settled at h2
  split at h2
  . rename_i c1
    obtain ⟨c2,c3,c4⟩:=c1
    subst c2
    by_cases hle:c.first+i <= s.cum
    . rcases h.done i y hy hle with h5 | h5
      . exact h5
      . rw [he,hz] at h5;cases h5
    . have hi:=zcn hy
      obtain ⟨k,hk⟩:∃ k,i=(s.cum+1 - c.first).toNat+k:=⟨i - (s.cum+1 - c.first).toNat,by omega⟩
      obtain ⟨x,hx⟩:∃ x,s.out[k]?=some x:=⟨_,List.getElem?_eq_getElem (by omega)⟩
      obtain ⟨z,z1,z2,-⟩:=h.out k x hx
      rw [<- hk,hy] at z1
      cases z1
      rw [List.any_eq_false] at c4
      have c5:=c4 x (List.mem_of_getElem? hx)
      rw [hk]
      refine h.come k x hx ?_
      apply Classical.byContradiction
      intro hne
      exact c5 (by rw [Bool.and_eq_true];exact ⟨decide_eq_true (by omega),decide_eq_true hne⟩)
  . subst h2
    exact h.told id hz i y hy he
theorem yah (s:Sender) {k:Nat} (h:gF s k):gF (Snd.settle s) k:=by
 unfold gF at h ⊢
 show (s.fates.mapIdx fun id f=>settled s id f)[k]?=_
 rw [List.getElem?_mapIdx,h]
 show some (settled s k 3)=some 3
 rw [settled,if_neg (by rintro ⟨h,-⟩;cases h)]
theorem yqt (h:GS c L H A s) (hs:SI N s) (hN:N <= 500) {ch:Chunk} (ho:zgp c H A (gF s) ch):GS c L H A (hear s ch) /\ ∀ k,gF s k -> gF (hear s ch) k:=by
 obtain ⟨n,n1,n2,n3,n4,-,n5⟩:=ho
 have hlen:=h.num hs
 have hcap:=h.few hs
 have hcu:=hs.cum
 have hw:=zbo hs.cfg
 rw [h.cfg] at hcu hw
 have hnear:near s.cum ch.tag=n:=Rcv.zks (by omega) (by omega) (by omega) (by omega) n3.symm
 unfold hear
 by_cases c1:ch.kind ≠ 2
 . rw [if_pos c1];exact ⟨h,fun _ h=>h⟩
 rw [if_neg c1]
 by_cases c2:near s.cum ch.tag < s.cum \/ near s.cum ch.tag > s.cum+s.out.length
 . rw [if_pos c2];exact ⟨h,fun _ h=>h⟩
 rw [if_neg c2,zmw]
 have hsi:=zwq hs c2
 have hfil:=zjn hs.nums (show s.cum <= near s.cum ch.tag by omega)
 have e1:(Sco.sack s.out s.cum ch s.paths.length).1=(s.out.drop (n - s.cum).toNat).map fun x=>Sco.age (Sco.zer ch n s.out) (Sco.turn ch n x):=by
  rw [Sco.sack,if_neg c2]
  dsimp only
  rw [Sco.left,hfil,List.map_map,hnear];rfl
 have e2:(Sco.sack s.out s.cum ch s.paths.length).2.1=n:=by rw [Sco.sack,if_neg c2];exact hnear
 rw [hnear] at c2
 have hst:∀ x:Sent,(Sco.age (Sco.zer ch n s.out) (Sco.turn ch n x)).id=x.id /\ (Sco.age (Sco.zer ch n s.out) (Sco.turn ch n x)).chunk=x.chunk /\
  ((x.state=4 \/ x.state=0) -> (Sco.age (Sco.zer ch n s.out) (Sco.turn ch n x)).state=x.state) /\ ((Sco.age (Sco.zer ch n s.out) (Sco.turn ch n x)).state=4 -> x.state=4) /\ ((Sco.age (Sco.zer ch n s.out) (Sco.turn ch n x)).state=2 -> x.state=2 \/ Sco.here ch n x=true):=by
  intro x
  have t:(Sco.turn ch n x).id=x.id /\ (Sco.turn ch n x).chunk=x.chunk /\ ((x.state=4 \/ x.state=0) -> (Sco.turn ch n x).state=x.state) /\ ((Sco.turn ch n x).state=4 -> x.state=4) /\ ((Sco.turn ch n x).state=2 -> x.state=2 \/ Sco.here ch n x=true):=by
   unfold Sco.turn
   split
   . rename_i c3
     unfold Sco.comes at c3
     simp only [Bool.and_eq_true,Bool.or_eq_true,beq_iff_eq] at c3
     exact ⟨rfl,rfl,fun h=>by omega,fun h=>by (cases h),fun _=>.inr c3.1⟩
   . exact ⟨rfl,rfl,fun _=>rfl,fun h=>h,.inl⟩
  obtain ⟨t1,t2,t3,t4,t5⟩:=t
  generalize Sco.turn ch n x=y at t1 t2 t3 t4 t5
  unfold Sco.age
  split
  . rename_i c3
    split
    . exact ⟨t1,t2,fun h=>by have:=t3 h;omega,fun h=>by (cases h),fun h=>by (cases h)⟩
    . exact ⟨t1,t2,t3,t4,t5⟩
  . exact ⟨t1,t2,t3,t4,t5⟩
 have hT:GS c L H A (zfi s ch (Sco.sack s.out s.cum ch s.paths.length)):=by
  have o1:(zfi s ch (Sco.sack s.out s.cum ch s.paths.length)).out=(s.out.drop (n - s.cum).toNat).map fun x=>Sco.age (Sco.zer ch n s.out) (Sco.turn ch n x):=e1
  have o2:(zfi s ch (Sco.sack s.out s.cum ch s.paths.length)).cum=n:=e2
  have hidx:∀ k:Nat,(n+1 - c.first).toNat+k=(s.cum+1 - c.first).toNat+((n - s.cum).toNat+k):=fun k=>by omega
  refine ⟨h.cfg,h.hi,h.len,fun k x hx=>?_,fun x hx hd=>?_,fun x hx h4=>?_,fun k x hx h2=>?_,fun i y hy hle=>?_,h.ids,h.rise,h.hand,h.handn,h.fresh,h.begun,h.mids,h.midn,h.whole,h.told⟩
  . rw [o1,List.getElem?_map,List.getElem?_drop] at hx
    rw [o2,hidx]
    cases hy:s.out[(n - s.cum).toNat+k]? with
    | none=>rw [hy] at hx;cases hx
    | some y =>
     rw [hy] at hx;cases hx
     obtain ⟨w,w1,w2,w3⟩:=h.out _ y hy
     exact ⟨w,w1,(hst y).1.trans w2,(hst y).2.1.trans w3⟩
  . rw [o1] at hx
    obtain ⟨y,hy,rfl⟩:=List.mem_map.1 hx
    rw [(hst y).2.1] at hd
    have h5:=h.stop y (List.mem_of_mem_drop hy) hd
    rw [(hst y).2.2.1 h5];exact h5
  . rw [o1] at hx
    obtain ⟨y,hy,rfl⟩:=List.mem_map.1 hx
    rw [(hst y).1]
    exact h.gone y (List.mem_of_mem_drop hy) ((hst y).2.2.2.1 h4)
  . rw [o1,List.getElem?_map,List.getElem?_drop] at hx
    rw [o2,hidx]
    cases hy:s.out[(n - s.cum).toNat+k]? with
    | none=>rw [hy] at hx;cases hx
    | some y =>
     rw [hy] at hx;cases hx
     rcases (hst y).2.2.2.2 h2 with h5 | h5
     . exact h.come _ y hy h5
     . have hnum:=hs.nums _ y hy
       have hk:=zcn hy
       unfold Sco.here at h5
       rw [Bool.or_eq_true,decide_eq_true_eq] at h5
       rcases h5 with h5 | h5
       . omega
       . rw [W_fit (by omega) (by omega)] at h5
         refine n5 _ (by omega) ?_
         rw [show c.first+(((s.cum+1 - c.first).toNat+((n - s.cum).toNat+k):Nat):Int) - n=y.number - n by rw [hnum];omega]
         exact h5
  . rw [o2] at hle
    exact n4 i y hy hle
 have hU:GS c L H A (zgk s.config.part (zfi s ch (Sco.sack s.out s.cum ch s.paths.length)) (Sco.sack s.out s.cum ch s.paths.length).2.2.2):=by
  unfold zgk
  split
  . exact hT
  . split
    . exact hT.congr rfl rfl rfl rfl rfl rfl rfl rfl
    . exact hT
 have hUs:=zwr hsi (part:=s.config.part) (L:=(Sco.sack s.out s.cum ch s.paths.length).2.2.2)
 have hUf:(zgk s.config.part (zfi s ch (Sco.sack s.out s.cum ch s.paths.length)) (Sco.sack s.out s.cum ch s.paths.length).2.2.2).fates=s.fates:=by
  unfold zgk
  split
  . rfl
  . split <;> rfl
 generalize zgk s.config.part (zfi s ch (Sco.sack s.out s.cum ch s.paths.length)) (Sco.sack s.out s.cum ch s.paths.length).2.2.2=u at hU hUs hUf
 generalize decide ((Sco.sack s.out s.cum ch s.paths.length).2.1 > s.cum)=b
 have hV:GS c L H A (zes b u):=by
  unfold zes
  split
  . exact hU.congr rfl rfl rfl rfl rfl rfl rfl rfl
  . exact hU
 have hVf:(zes b u).fates=u.fates:=by unfold zes;split <;> rfl
 refine ⟨ykw hV (zws hUs),fun k hk=>yah _ ?_⟩
 unfold gF at hk ⊢
 rw [hVf,hUf];exact hk
theorem ynk (h:GS c L H A s) (part:Int) (i:Nat):GS c L H A (late1 part s i) /\ (late1 part s i).fates=s.fates:=by
 unfold late1
 split
 . exact ⟨h,rfl⟩
 rename_i p hp
 split
 . exact ⟨h,rfl⟩
 have g:=h.mapOut (g:=Sco.late i) (fun x=>by unfold Sco.late;split <;> exact ⟨rfl,rfl⟩) (fun x _ _ hx=>by
  unfold Sco.late
  split
  . rename_i c1;omega
  . exact hx) (fun x _ hx=>by
  unfold Sco.late at hx
  split at hx
  . cases hx
  . exact .inl hx) (fun x _ hx=>by
  unfold Sco.late at hx
  split at hx
  . cases hx
  . exact hx)
 dsimp only
 split
 . exact ⟨g.congr rfl rfl rfl rfl rfl rfl rfl rfl,rfl⟩
 . exact ⟨g.congr rfl rfl rfl rfl rfl rfl rfl rfl,rfl⟩
theorem yds (part:Int):∀ (l:List Nat) {s:Sender},GS c L H A s -> GS c L H A (l.foldl (late1 part) s) /\ (l.foldl (late1 part) s).fates=s.fates
 | [],_,h=>⟨h,rfl⟩
 | i :: l,s,h=>by
  obtain ⟨h1,h2⟩:=ynk h part i
  obtain ⟨k1,k2⟩:=yds part l h1
  exact ⟨k1,k2.trans h2⟩
theorem yqu (h:GS c L H A s):GS c L H A (tick s) /\ (tick s).fates=s.fates :=
 yds _ _ (s:={ s with clock:=W (s.clock+1) }) (h.congr rfl rfl rfl rfl rfl rfl rfl rfl)
theorem yqv (h:GS c L H A s) (hs:SI N s) (hk:KI L s) (m:Message):GS c (L++[m]) H A (sendS s m) /\ ∀ k,gF s k -> gF (sendS s m) k:=by
 have hkl:=hk.len
 have hmore:∀ {i:Nat} {w:Message},L[i]?=some w -> (L++[m])[i]?=some w:=fun h=>zeu h
 have hidl:∀ x ∈ H,x.id < L.length:=fun x hx=>by obtain ⟨w,w1,-⟩:=h.hi.msg x hx;exact zcn w1
 have hg:∀ k:Nat,s.fates[k]?=some 3 -> (s.fates++[1])[k]?=some 3:=fun k hk=>zeu hk
 have hg2:∀ (k:Nat) (z:Int),z ≠ 1 -> (s.fates++[1])[k]?=some z -> s.fates[k]?=some z:=fun k z hz hk=>by
  rcases zda hk with hk | ⟨-,rfl⟩
  . exact hk
  . exact absurd rfl hz
 have hq:∀ q ∈ (sendS s m).queue,q ∈ s.queue \/ q=⟨s.fates.length,-1,s.clock,0,0,m⟩:=fun q hq=>by
  rcases List.mem_append.1 hq with hq | hq
  . exact .inl hq
  . exact .inr (List.mem_singleton.1 hq)
 refine ⟨⟨h.cfg,⟨h.hi.tag,fun x hx=>?_,h.hi.mid,h.hi.key,h.hi.order,h.hi.part⟩,h.len,h.out,h.stop,fun x hx h4=>hg _ (h.gone x hx h4),h.come,fun i y hy hle=>(h.done i y hy hle).imp (fun z=>z) (hg _),fun q hq'=>?_,?_,fun q hq' hh=>?_,?_,fun q hq' hmn=>?_,fun q hq' hmn=>?_,h.mids,h.midn,fun id hid h3=>?_,fun id h2=>h.told id (hg2 id 2 (by decide) h2)⟩,hg⟩
 . obtain ⟨w,w1,w2⟩:=h.hi.msg x hx
   exact ⟨w,hmore w1,w2⟩
 . rcases hq q hq' with hq' | rfl
   . exact h.ids q hq'
   . show (0:Int) <= s.fates.length;omega
 . refine List.pairwise_append.2 ⟨h.rise,by simp,fun a ha b hb=>?_⟩
   rw [List.mem_singleton] at hb;subst hb
   exact (hs.queue a ha).id1
 . have hh:q.id=s.sched.hand:=hh
   rcases hq q hq' with hq' | rfl
   . exact h.hand q hq' hh
   . have:=h.handn
     have hh:(s.fates.length:Int)=s.sched.hand:=hh
     omega
 . have:=h.handn
   show s.sched.hand < ((L++[m]).length:Int)
   rw [List.length_append];push_cast;omega
 . rcases hq q hq' with hq' | rfl
   . exact h.fresh q hq' hmn
   . refine ⟨rfl,fun y hy _=>?_⟩
     have:=hidl y hy
     show (y.id:Int) < s.fates.length
     omega
 . rcases hq q hq' with hq' | rfl
   . exact h.begun q hq' hmn
   . have hmn:(0:Int) <= -1:=hmn
     omega
 . rw [List.length_append,List.length_singleton] at hid
   by_cases e:id=L.length
   . exact .inl ⟨⟨s.fates.length,-1,s.clock,0,0,m⟩,List.mem_append_right _ (by simp),by show (s.fates.length:Int)=id;omega⟩
   . rcases h.whole id (by omega) fun h5=>h3 (hg _ h5) with ⟨q,e1,e2⟩ | e1
     . exact .inl ⟨q,List.mem_append_left _ e1,e2⟩
     . right
       intro w hw
       rcases zda hw with hw | ⟨hw,-⟩
       . exact e1 w hw
       . exact absurd hw e
theorem ysa {c:Config} (hw:wrgS c=0) (A:Nat -> Prop):GS c [] [] A (newS c):=by
 have h2:=zbo hw
 refine ⟨rfl,⟨by simp,by simp,by simp,by simp,by simp,by simp⟩,by show c.first+((([]:List Prt).length:Nat):Int)=c.first;simp,by simp [newS],by simp [newS],by simp [newS],by simp [newS],by simp,by simp [newS],by simp [newS],by simp [newS],by show (-1:Int) < _;simp,by simp [newS],by simp [newS],by simp,fun n hn=>?_,by simp,by simp [newS]⟩
 have:n=0:=List.eq_of_mem_replicate hn
 subst this;simp
end
end Gh
end Go.HL
namespace Go.HL
open Go.Proofs
namespace Gh
open Ser Srt Jn Rcv
set_option maxHeartbeats 4000000
set_option maxRecDepth 100000
set_option linter.unusedSimpArgs false
def LogOK (L:List Message) (H:List Prt) (id:Nat) (a:Arrival):Prop:=∃ m,L[id]?=some m /\ a.stream=m.stream /\ a.ordered=m.ordered /\ a.data=m.data /\ ∃ y ∈ H,y.id=id
structure GR (c:Config) (L:List Message) (H:List Prt) (A F:Nat -> Prop) (D:List Nat) (r:Receiver):Prop where
 lo:c.first - 1 <= r.cum
 hi:r.cum < c.first+H.length
 rise:Ser.rise r.spans
 above:∀ s ∈ r.spans,r.cum+1 < s.lo
 spanh:∀ s ∈ r.spans,s.hi < c.first+H.length
 span:∀ i:Nat,has r.spans (c.first+i)=true -> A i
 cum:∀ (i:Nat) y,H[i]?=some y -> c.first+i <= r.cum -> A i \/ F y.id
 acc:∀ i:Nat,A i -> i < H.length /\ (c.first+i <= r.cum \/ has r.spans (c.first+i)=true)
 pieces:∀ p ∈ r.pieces,∃ (i:Nat) (y:Prt),H[i]?=some y /\ p.number=c.first+i /\ p.chunk=y.chunk /\ y.chunk.data ≠ [] /\ A i /\ y.id ∉ D
 apart:r.pieces.Pairwise fun p q=>p.number ≠ q.number
 kept:∀ (i:Nat) y,H[i]?=some y -> A i -> (∃ p ∈ r.pieces,p.number=c.first+i) \/ y.id ∈ D \/ F y.id
 logl:D.length=r.log.length
 log:∀ (k:Nat) id a,D[k]?=some id -> r.log[k]?=some a -> LogOK L H id a
 once:D.Nodup
 dall:∀ id ∈ D,Whole c L H id /\ ∀ (i:Nat) y,H[i]?=some y -> y.id=id -> y.chunk.data ≠ [] -> A i
 streams:(r.turn.length:Int)=c.streams
 turn0:∀ t ∈ r.turn,0 <= t
 turn:∀ (k:Nat) t,r.turn[k]?=some t -> t=0 \/ ∃ y ∈ H,y.chunk.stream=k /\ y.chunk.ordered=true /\ t <= y.chunk.mid+1
 past:∀ (k:Nat) t,r.turn[k]?=some t -> ∀ y ∈ H,y.chunk.stream=k -> y.chunk.ordered=true -> y.chunk.mid < t -> y.id ∈ D \/ F y.id
 dturn:∀ (k:Nat) t,r.turn[k]?=some t -> ∀ y ∈ H,y.id ∈ D -> y.chunk.stream=k -> y.chunk.ordered=true -> y.chunk.mid < t
 dord:D.Pairwise fun a b=>∀ x ∈ H,∀ y ∈ H,x.id=a -> y.id=b -> Cls x.chunk y.chunk -> x.chunk.ordered=true -> a < b
section
variable {c:Config} {L:List Message} {H:List Prt} {A F:Nat -> Prop} {D:List Nat} {r:Receiver}
theorem LogOK.more {E:List Prt} {M:List Message} {id:Nat} {a:Arrival} (h:LogOK L H id a):LogOK (L++M) (H++E) id a:=by
 obtain ⟨m,h1,h2,h3,h4,y,h5,h6⟩:=h
 exact ⟨m,zeu h1,h2,h3,h4,y,List.mem_append_left _ h5,h6⟩
theorem GR.goneMore {G:Nat -> Prop} (h:GR c L H A F D r) (hF:∀ k,F k -> G k):GR c L H A G D r :=
 ⟨h.lo,h.hi,h.rise,h.above,h.spanh,h.span,fun i y h1 h2=>(h.cum i y h1 h2).imp id (hF _),h.acc,h.pieces,h.apart,fun i y h1 h2=>(h.kept i y h1 h2).imp id (Or.imp id (hF _)),h.logl,h.log,h.once,h.dall,h.streams,h.turn0,h.turn,fun k t h1 y h2 h3 h4 h5=>(h.past k t h1 y h2 h3 h4 h5).imp id (hF _),h.dturn,h.dord⟩
theorem Whole.lmore {M:List Message} {id:Nat} (h:Whole c L H id) (hid:id < L.length):Whole c (L++M) H id:=fun m hm=>h m (by rwa [List.getElem?_append_left hid] at hm)
theorem GR.lMore (h:GR c L H A F D r) (m:Message):GR c (L++[m]) H A F D r:=by
 have hl:∀ id ∈ D,id < L.length:=fun id hid=>by
  obtain ⟨k,hk⟩:=List.getElem?_of_mem hid
  obtain ⟨w,w1,-⟩:=h.log k id (r.log[k]'(by rw [<- h.logl];exact zcn hk)) hk (List.getElem?_eq_getElem _)
  exact zcn w1
 exact ⟨h.lo,h.hi,h.rise,h.above,h.spanh,h.span,h.cum,h.acc,h.pieces,h.apart,h.kept,h.logl,fun k id a h1 h2=>by have:=(h.log k id a h1 h2).more (E:=[]) (M:=[m]);rwa [List.append_nil] at this,h.once,fun id hid=>⟨(h.dall id hid).1.lmore (hl id hid),(h.dall id hid).2⟩,h.streams,h.turn0,h.turn,h.past,h.dturn,h.dord⟩
theorem GR.ext (h:GR c L H A F D r) {E:List Prt} (hn:HI c L (H++E)):GR c L (H++E) A F D r:=by
 have hold:∀ {i:Nat} {y:Prt},(H++E)[i]?=some y -> i < H.length -> H[i]?=some y:=fun h1 h2=>yae h1 h2
 have hmem:∀ {y:Prt},y ∈ H -> y ∈ H++E:=fun h=>List.mem_append_left _ h
 have hlen:((H++E).length:Int)=H.length+E.length:=by rw [List.length_append];push_cast;rfl
 have hdid:∀ id ∈ D,∃ y ∈ H,y.id=id:=fun id hid=>by
  obtain ⟨k,hk⟩:=List.getElem?_of_mem hid
  obtain ⟨-,-,-,-,-,y,y1,y2⟩:=h.log k id (r.log[k]'(by rw [<- h.logl];exact zcn hk)) hk (List.getElem?_eq_getElem _)
  exact ⟨y,y1,y2⟩
 have hrep:∀ y ∈ H++E,∀ y1 ∈ H,Cls y.chunk y1.chunk -> y.chunk.mid <= y1.chunk.mid -> ∃ z ∈ H,z.id=y.id /\ z.chunk.mid=y.chunk.mid /\ Cls z.chunk y.chunk:=by
  intro y hy y1 hy1 hc hle
  rcases List.mem_append.1 hy with h2 | h2
  . exact ⟨y,h2,rfl,rfl,⟨rfl,rfl⟩⟩
  . obtain ⟨j,hj⟩:=List.getElem?_of_mem h2
    obtain ⟨i,hi⟩:=List.getElem?_of_mem hy1
    have k1:=hn.order i (H.length+j) y1 y (by have:=zcn hi;omega) (zeu hi) (by rw [List.getElem?_append_right (by omega),Nat.add_sub_cancel_left];exact hj) hc.symm
    have k2:=hn.key y1 (hmem hy1) y hy hc.symm
    have k3:=(hn.same hy (hmem hy1) hc).1
    have e:y.id=y1.id:=by omega
    exact ⟨y1,hy1,e.symm,(k3 e).symm,hc.symm⟩
 refine ⟨h.lo,by have:=h.hi;omega,h.rise,h.above,fun s hs=>by have:=h.spanh s hs;omega,h.span,fun i y hy hle=>h.cum i y (hold hy (by have:=h.hi;omega)) hle,fun i hi=>⟨by have:=(h.acc i hi).1;rw [List.length_append];omega,(h.acc i hi).2⟩,fun p hp=>?_,h.apart,fun i y hy hA=>h.kept i y (hold hy (h.acc i hA).1) hA,h.logl,fun k id a h1 h2=>?_,h.once,fun id hid=>⟨(h.dall id hid).1.more,fun i y hy he hd=>?_⟩,h.streams,h.turn0,fun k t hk=>?_,fun k t hk y hy h1 h2 h3=>?_,fun k t hk y hy hd h1 h2=>?_,?_⟩
 . obtain ⟨i,y,p1,p2⟩:=h.pieces p hp
   exact ⟨i,y,zeu p1,p2⟩
 . have:=(h.log k id a h1 h2).more (E:=E) (M:=[])
   rwa [List.append_nil] at this
 . obtain ⟨w1,w2⟩:=h.dall id hid
   rcases Nat.lt_or_ge i H.length with hl | hl
   . exact w2 i y (hold hy hl) he hd
   . exfalso
     obtain ⟨m,m1,-,-,m2⟩:=hn.msg y (List.mem_of_getElem? hy)
     have mp:=m2 hd
     rw [he] at m1
     obtain ⟨z,z1,z2,z3,-⟩:=w1 m m1 y.chunk.part.toNat (by have:=mp.part0;have:=mp.inn;rw [Int.toNat_of_nonneg mp.part0];exact mp.inn)
     obtain ⟨j,hj⟩:=List.getElem?_of_mem z1
     have:=hn.at (zeu hj) hy (by omega) (by have:=mp.part0;omega)
     have:=zcn hj
     omega
 . rcases h.turn k t hk with h1 | ⟨y,y1,y2⟩
   . exact .inl h1
   . exact .inr ⟨y,hmem y1,y2⟩
 . rcases h.turn k t hk with h4 | ⟨y1,q1,q2,q3,q4⟩
   . have:=hn.mid y hy;omega
   . obtain ⟨z,z1,z2,z3,z4⟩:=hrep y hy y1 q1 ⟨h1.trans q2.symm,h2.trans q3.symm⟩ (by omega)
     rw [<- z2]
     exact h.past k t hk z z1 (z4.1.trans h1) (z4.2.trans h2) (by omega)
 . obtain ⟨z,z1,z2⟩:=hdid y.id hd
   have zc:=hn.cls (hmem z1) hy z2
   have zm:=(hn.same (hmem z1) hy zc).1 z2
   rw [<- zm]
   exact h.dturn k t hk z z1 (by rw [z2];exact hd) (zc.1.trans h1) (zc.2.trans h2)
 . refine h.dord.imp_of_mem fun {a b} ha hb hab x hx y hy hxa hyb hc ho=>?_
   obtain ⟨x',x1,x2⟩:=hdid a ha
   obtain ⟨y',y1,y2⟩:=hdid b hb
   have xc:=hn.cls (hmem x1) hx (x2.trans hxa.symm)
   have yc:=hn.cls (hmem y1) hy (y2.trans hyb.symm)
   exact hab x' x1 y' y1 x2 y2 (xc.trans (hc.trans yc.symm)) (xc.2.trans ho)
theorem GR.turnB (h:GR c L H A F D r) (hi:HI c L H) {k:Nat} {t:Int} (hk:r.turn[k]?=some t):0 <= t /\ t <= H.length:=by
 refine ⟨h.turn0 t (List.mem_of_getElem? hk),?_⟩
 rcases h.turn k t hk with h1 | ⟨y,y1,-,-,y2⟩
 . omega
 . have:=hi.mid y y1;omega
structure Dlv (c:Config) (L:List Message) (H:List Prt) (A:Nat -> Prop) (D:List Nat) (r:Receiver) (s m:Int) (o:Bool) (b:List UInt8) (id:Nat) (w:Message):Prop where
 msg:L[id]?=some w
 new:id ∉ D
 stream:w.stream=s
 ord:w.ordered=o
 data:b=w.data
 one:∃ y ∈ H,y.id=id
 mine:∀ y ∈ H,y.id=id ↔ (y.chunk.stream=s /\ y.chunk.ordered=o /\ y.chunk.mid=m)
 whole:Whole c L H id
 all:∀ (i:Nat) y,H[i]?=some y -> y.id=id -> y.chunk.data ≠ [] -> A i
theorem zhh {s m:Int} {o:Bool} {p:Piece}:mine s m o p=true ↔ p.chunk.stream=s /\ p.chunk.ordered=o /\ p.chunk.mid=m:=by
 unfold mine
 simp only [Bool.and_eq_true,decide_eq_true_eq,beq_iff_eq]
 exact ⟨fun h=>⟨h.1.1,h.2,h.1.2⟩,fun h=>⟨⟨h.1,h.2.2⟩,h.2.1⟩⟩
theorem ydt (h:GR c L H A F D r) (hi:HI c L H) (hP:1 <= c.part) {s m:Int} {o:Bool} {b:List UInt8} (hj:join (r.pieces.filter (mine s m o))=some b):∃ id w,Dlv c L H A D r s m o b id w:=by
 have hmul:∀ {a b:Int},a <= b -> a * c.part <= b * c.part:=fun hab=>Int.mul_le_mul_of_nonneg_right hab (by omega)
 obtain ⟨p0,hp0⟩:∃ p,p ∈ r.pieces.filter (mine s m o):=List.exists_mem_of_length_pos (ztr hj)
 obtain ⟨g1,g2⟩:=List.mem_filter.1 hp0
 obtain ⟨k1,k2,k3⟩:=zhh.1 g2
 obtain ⟨i0,y0,q1,q2,q3,q4,q5,q6⟩:=h.pieces p0 g1
 rw [q3] at k1 k2 k3
 have hy0:=List.mem_of_getElem? q1
 obtain ⟨w,w1,w2,w3,w4⟩:=hi.msg y0 hy0
 have hsame:∀ y ∈ H,y.id=y0.id ↔ (y.chunk.stream=s /\ y.chunk.ordered=o /\ y.chunk.mid=m):=by
  intro y hy
  constructor
  . intro e
    have hc:=hi.cls hy hy0 e
    exact ⟨hc.1.trans k1,hc.2.trans k2,((hi.same hy hy0 hc).1 e).trans k3⟩
  . rintro ⟨e1,e2,e3⟩
    have hc:Cls y.chunk y0.chunk:=⟨e1.trans k1.symm,e2.trans k2.symm⟩
    exact (hi.same hy hy0 hc).2 (e3.trans k3.symm)
 have hpart:∀ p ∈ r.pieces.filter (mine s m o),∃ (i:Nat) (y:Prt),H[i]?=some y /\ y.id=y0.id /\ p.chunk=y.chunk /\ A i /\ y.chunk.data ≠ [] /\ zmi c.part w p.chunk:=by
  intro p hp
  obtain ⟨g3,g4⟩:=List.mem_filter.1 hp
  obtain ⟨i,y,z1,z2,z3,z4,z5,z6⟩:=h.pieces p g3
  have hy:=List.mem_of_getElem? z1
  have e:y.id=y0.id:=(hsame y hy).2 (by rw [<- z3];exact zhh.1 g4)
  obtain ⟨v,v1,v2,v3,v4⟩:=hi.msg y hy
  rw [e,w1] at v1
  cases v1
  exact ⟨i,y,z1,e,z3,z5,z4,by rw [z3];exact v4 z4⟩
 have hbd:(w.data.length:Int) <= (r.pieces.filter (mine s m o)).length * c.part:=by
  have hl:=ztr hj
  obtain ⟨p,hp,e1,e2⟩:=zlr hj ((r.pieces.filter (mine s m o)).length - 1) (by omega)
  obtain ⟨-,-,-,-,-,-,-,hpo⟩:=hpart p hp
  have hl2:=hpo.last
  rw [e2,e1,decide_eq_true (by omega)] at hl2
  have hl3:=of_decide_eq_true hl2.symm
  have e3:(((r.pieces.filter (mine s m o)).length:Nat):Int) * c.part=(((r.pieces.filter (mine s m o)).length - 1:Nat):Int) * c.part+c.part:=by
   have:(((r.pieces.filter (mine s m o)).length:Nat):Int)=(((r.pieces.filter (mine s m o)).length - 1:Nat):Int)+1:=by omega
   rw [this,Int.add_mul,Int.one_mul]
  omega
 have hlt:∀ j:Nat,(j:Int) * c.part < w.data.length -> j < (r.pieces.filter (mine s m o)).length:=by
  intro j hj2
  apply Classical.byContradiction
  intro hc
  have:=hmul (show (((r.pieces.filter (mine s m o)).length:Nat):Int) <= j by omega)
  omega
 refine ⟨y0.id,w,w1,q6,w2.symm.trans k1,w3.symm.trans k2,yni hP hj fun p hp=>by obtain ⟨-,-,-,-,-,-,-,hpo⟩:=hpart p hp;exact hpo,⟨y0,hy0,rfl⟩,hsame,fun v hv j hjp=>?_,fun i y hy he hd=>?_⟩
 . rw [w1] at hv
   cases hv
   obtain ⟨p,hp,e1,-⟩:=zlr hj j (hlt j hjp)
   obtain ⟨i,y,z1,z2,z3,z4,z5,-⟩:=hpart p hp
   exact ⟨y,List.mem_of_getElem? z1,z2,by rw [<- z3];exact e1,z5⟩
 . obtain ⟨v,v1,v2,v3,v4⟩:=hi.msg y (List.mem_of_getElem? hy)
   rw [he,w1] at v1
   cases v1
   have hpo:=v4 hd
   have p0:=hpo.part0
   obtain ⟨p,hp,e1,-⟩:=zlr hj y.chunk.part.toNat (hlt _ (by rw [Int.toNat_of_nonneg p0];exact hpo.inn))
   obtain ⟨i',y',z1,z2,z3,z4,z5,-⟩:=hpart p hp
   have:=hi.at hy z1 (he.trans z2.symm) (by rw [<- z3,e1];omega)
   rw [this];exact z4
theorem zxz (h:GR c L H A F D r) {s m:Int} {o:Bool} {b:List UInt8} {id:Nat} {w:Message} (hd:Dlv c L H A D r s m o b id w) :
 (∀ p ∈ r.pieces.filter (fun p=>!mine s m o p),∃ (i:Nat) (y:Prt),H[i]?=some y /\ p.number=c.first+i /\ p.chunk=y.chunk /\ y.chunk.data ≠ [] /\ A i /\ y.id ∉ D++[id]) /\
 (∀ (i:Nat) y,H[i]?=some y -> A i -> (∃ p ∈ r.pieces.filter (fun p=>!mine s m o p),p.number=c.first+i) \/ y.id ∈ D++[id] \/ F y.id) /\
 (∀ (k:Nat) id' a,(D++[id])[k]?=some id' -> (r.log++[(⟨s,m,o,b⟩:Arrival)])[k]?=some a -> LogOK L H id' a) /\ (D++[id]).Nodup /\
 (∀ id' ∈ D++[id],Whole c L H id' /\ ∀ (i:Nat) y,H[i]?=some y -> y.id=id' -> y.chunk.data ≠ [] -> A i):=by
 refine ⟨fun p hp=>?_,fun i y hy hA=>?_,fun k id' a h1 h2=>?_,?_,fun id' hid=>?_⟩
 . obtain ⟨g1,g2⟩:=List.mem_filter.1 hp
   obtain ⟨i,y,z1,z2,z3,z4,z5,z6⟩:=h.pieces p g1
   refine ⟨i,y,z1,z2,z3,z4,z5,fun hin=>?_⟩
   rcases List.mem_append.1 hin with hin | hin
   . exact z6 hin
   . rw [List.mem_singleton] at hin
     have:=(hd.mine y (List.mem_of_getElem? z1)).1 hin
     rw [<- z3] at this
     rw [zhh.2 this] at g2
     cases g2
 . rcases h.kept i y hy hA with ⟨p,p1,p2⟩ | h1 | h1
   . by_cases hm:mine s m o p=true
     . obtain ⟨i',y',z1,z2,z3,z4,z5,z6⟩:=h.pieces p p1
       have:i'=i:=by omega
       subst this
       rw [hy] at z1
       cases z1
       right;left
       rw [(hd.mine y (List.mem_of_getElem? hy)).2 (by rw [<- z3];exact zhh.1 hm)];simp
     . exact .inl ⟨p,List.mem_filter.2 ⟨p1,by simp at hm;simp [hm]⟩,p2⟩
   . exact .inr (.inl (List.mem_append_left _ h1))
   . exact .inr (.inr h1)
 . rcases zda h1 with h1 | ⟨rfl,rfl⟩
   . rw [List.getElem?_append_left (by rw [<- h.logl];exact zcn h1)] at h2
     exact h.log k id' a h1 h2
   . rw [h.logl,List.getElem?_append_right (Nat.le_refl _),Nat.sub_self] at h2
     cases h2
     exact ⟨w,hd.msg,hd.stream.symm,hd.ord.symm,hd.data,hd.one⟩
 . rw [List.nodup_append]
   exact ⟨h.once,by simp,fun a ha b hb=>by rw [List.mem_singleton] at hb;subst hb;exact fun e=>hd.new (e ▸ ha)⟩
 . rcases List.mem_append.1 hid with hid | hid
   . exact h.dall id' hid
   . rw [List.mem_singleton] at hid;subst hid;exact ⟨hd.whole,hd.all⟩
theorem zxg (r:Receiver) (s m:Int) (o:Bool) (hj:join (r.pieces.filter (mine s m o))=none):dlv r s m o=(r,false):=by unfold dlv;rw [hj]
theorem zud (r:Receiver) (s m:Int) (o:Bool) {b:List UInt8} (hj:join (r.pieces.filter (mine s m o))=some b):dlv r s m o=({ dropR r s m o with log:=r.log++[⟨s,m,o,b⟩] },true):=by unfold dlv;rw [hj]
theorem ysb (h:GR c L H A F D r) (hi:HI c L H) (hP:1 <= c.part) (s m:Int):∃ D',GR c L H A F D' (dlv r s m false).1:=by
 cases hj:join (r.pieces.filter (mine s m false)) with
 | none=>rw [zxg r s m false hj];exact ⟨D,h⟩
 | some b =>
  rw [zud r s m false hj]
  obtain ⟨id,w,hd⟩:=ydt h hi hP hj
  obtain ⟨a1,a2,a3,a4,a5⟩:=zxz h hd
  refine ⟨D++[id],h.lo,h.hi,h.rise,h.above,h.spanh,h.span,h.cum,h.acc,a1,h.apart.filter _,a2,by show (D++[id]).length=(r.log++[_]).length;simp [h.logl],a3,a4,a5,h.streams,h.turn0,h.turn,fun k t hk y hy h1 h2 h3=>(h.past k t hk y hy h1 h2 h3).imp (List.mem_append_left _) (fun z=>z),fun k t hk y hy hy2 h1 h2=>?_,?_⟩
  . rcases List.mem_append.1 hy2 with hy2 | hy2
    . exact h.dturn k t hk y hy hy2 h1 h2
    . rw [List.mem_singleton] at hy2
      have:=((hd.mine y hy).1 hy2).2.1
      rw [h2] at this;cases this
  . refine List.pairwise_append.2 ⟨h.dord,by simp,fun a ha b' hb x hx y hy hxa hyb hc ho=>?_⟩
    rw [List.mem_singleton] at hb;subst hb
    have:=((hd.mine y hy).1 hyb).2.1
    rw [<- hc.2,ho] at this;cases this
theorem zft {l:List Int} {k:Nat} {t:Int} (hk:l[k]?=some t) {j:Nat} {u:Int} (hu:(l.set k (l[k]?.getD 0+1))[j]?=some u):(j=k /\ u=t+1) \/ (j ≠ k /\ l[j]?=some u):=by
 by_cases e:k=j
 . subst e
   rw [List.getElem?_set_self (zcn hk),hk] at hu
   cases hu;exact .inl ⟨rfl,rfl⟩
 . rw [List.getElem?_set_ne e] at hu;exact .inr ⟨fun h=>e h.symm,hu⟩
theorem yom (h:GR c L H A F D r) (hi:HI c L H) (hP:1 <= c.part) (hs:H.length <= 30500) {k:Nat} {t:Int} (hk:r.turn[k]?=some t) (hok:(dlv r k (tag t) true).2=true):∃ D',GR c L H A F D' (bump (dlv r k (tag t) true).1 k):=by
 obtain ⟨t0,t1⟩:=h.turnB hi hk
 have htag:tag t=t:=by unfold tag;omega
 rw [htag] at hok ⊢
 cases hj:join (r.pieces.filter (mine k t true)) with
 | none=>rw [zxg r k t true hj] at hok;cases hok
 | some b =>
  rw [zud r k t true hj]
  obtain ⟨id,w,hd⟩:=ydt h hi hP hj
  obtain ⟨a1,a2,a3,a4,a5⟩:=zxz h hd
  obtain ⟨y0,y1,y2⟩:=hd.one
  obtain ⟨m1,m2,m3⟩:=(hd.mine y0 y1).1 y2
  refine ⟨D++[id],h.lo,h.hi,h.rise,h.above,h.spanh,h.span,h.cum,h.acc,a1,h.apart.filter _,a2,by show (D++[id]).length=(r.log++[_]).length;simp [h.logl],a3,a4,a5,by show ((r.turn.set _ _).length:Int)=_;rw [List.length_set];exact h.streams,fun u hu=>?_,fun j u hu=>?_,fun j u hu y hy h1 h2 h3=>?_,fun j u hu y hy hy2 h1 h2=>?_,?_⟩
  . obtain ⟨j,hj2⟩:=List.getElem?_of_mem hu
    rcases zft hk hj2 with ⟨-,rfl⟩ | ⟨-,hu⟩
    . omega
    . exact h.turn0 u (List.mem_of_getElem? hu)
  . rcases zft hk hu with ⟨rfl,rfl⟩ | ⟨-,hu⟩
    . exact .inr ⟨y0,y1,m1,m2,by omega⟩
    . exact h.turn j u hu
  . rcases zft hk hu with ⟨rfl,rfl⟩ | ⟨-,hu⟩
    . by_cases e:y.chunk.mid=t
      . left;rw [(hd.mine y hy).2 ⟨h1,h2,e⟩];simp
      . exact (h.past j t hk y hy h1 h2 (by omega)).imp (List.mem_append_left _) (fun z=>z)
    . exact (h.past j u hu y hy h1 h2 h3).imp (List.mem_append_left _) (fun z=>z)
  . rcases zft hk hu with ⟨rfl,rfl⟩ | ⟨hne,hu⟩
    . rcases List.mem_append.1 hy2 with hy2 | hy2
      . have:=h.dturn j t hk y hy hy2 h1 h2;omega
      . rw [List.mem_singleton] at hy2
        have:=((hd.mine y hy).1 hy2).2.2;omega
    . rcases List.mem_append.1 hy2 with hy2 | hy2
      . exact h.dturn j u hu y hy hy2 h1 h2
      . rw [List.mem_singleton] at hy2
        have:=((hd.mine y hy).1 hy2).1;omega
  . refine List.pairwise_append.2 ⟨h.dord,by simp,fun a ha b' hb x hx y hy hxa hyb hc ho=>?_⟩
    rw [List.mem_singleton] at hb;subst hb
    obtain ⟨e1,e2,e3⟩:=(hd.mine y hy).1 hyb
    have e4:=h.dturn k t hk x hx (by rw [hxa];exact ha) (hc.1.trans e1) ho
    rw [<- hxa,<- hyb]
    exact (hi.key x hx y hy hc).2 (by omega)
theorem zpj (hi:HI c L H) (hP:1 <= c.part) (hs:H.length <= 30500) (k:Nat):∀ (n:Nat) {D:List Nat} {r:Receiver},GR c L H A F D r -> k < r.turn.length -> ∃ D',GR c L H A F D' (zkr n r k)
 | 0,D,r,h,_=>⟨D,h⟩
 | n+1,D,r,h,hk=>by
  obtain ⟨t,ht⟩:∃ t,r.turn[k]?=some t:=⟨_,List.getElem?_eq_getElem hk⟩
  rw [zkr]
  rw [show r.turn[k]?.getD 0=t by rw [ht];rfl]
  have hlen:=(zgo r k (tag t) true).1
  by_cases hok:(dlv r k (tag t) true).2=true
  . rw [if_pos hok]
    obtain ⟨D',h'⟩:=yom h hi hP hs ht hok
    exact zpj hi hP hs k n h' (by show k < (List.set _ _ _).length;rw [List.length_set,hlen];exact hk)
  . rw [if_neg hok]
    have:(dlv r k (tag t) true).1=r:=by
     cases hj:join (r.pieces.filter (mine k (tag t) true)) with
     | none=>rw [zxg r k (tag t) true hj]
     | some b=>rw [zud r k (tag t) true hj] at hok;exact absurd rfl hok
    rw [this];exact ⟨D,h⟩
end
end Gh
end Go.HL
namespace Go.HL
open Go.Proofs
namespace Gh
open Ser Srt Jn Rcv
set_option maxHeartbeats 4000000
set_option maxRecDepth 100000
set_option linter.unusedSimpArgs false
theorem up_or:∀ {l:List Span} {n m:Int} (_:Ser.rise l),(m <= (up l n).1 \/ has (up l n).2 m=true) -> m <= n \/ has l m=true
 | [],n,m,_,h=>by simpa [up] using h
 | s :: r,n,m,h,hm=>by
  rw [up] at hm
  split at hm
  . rename_i c1
    rcases up_or h.2.2.2.2 hm with h1 | h1
    . rw [zhf]
      split at h1
      . by_cases c2:m <= n
        . exact .inl c2
        . right
          rw [Bool.or_eq_true];left
          simp only [Bool.and_eq_true,decide_eq_true_eq];omega
      . exact .inl h1
    . right;rw [zhf,h1,Bool.or_true]
  . exact hm
theorem yon {l:List Span} {n m:Int} (h:Ser.rise l) (hm:m <= n \/ has l m=true):m <= (up l n).1 \/ has (up l n).2 m=true:=by
 rcases hm with hm | hm
 . have:=(zie (n:=n) h).1;exact .inl (by omega)
 . exact up_in h hm
section
variable {c:Config} {L:List Message} {H:List Prt} {A F:Nat -> Prop} {D:List Nat} {r:Receiver}
theorem ysc (h:GR c L H A F D r) (hs:H.length <= 30500) {ch:Chunk} {i:Nat} {y:Prt} (hi:HI c L H) (hc0:0 <= c.first /\ c.first < 65536) (hy:H[i]?=some y) (hch:ch=y.chunk) (hd:ch.data ≠ []) (ht:Takes r ch (near r.cum ch.tag)) :
 GR c L H (fun j=>A j \/ j=i) F D (put r ch):=by
 obtain ⟨t1,t2,t3,t4,t5⟩:=hi.tag i y hy
 have hil:=zcn hy
 have hlo:=h.lo
 have hhi:=h.hi
 have htag:tag (c.first+i)=tag ch.tag:=by rw [hch,t2];unfold tag;omega
 have hnear:near r.cum ch.tag=c.first+i:=zks (by omega) (by omega) (by omega) (by omega) htag
 have q1:=ht.above
 have q2:=ht.fresh
 rw [hnear] at q1 q2
 have hnA:¬ A i:=fun hA=>by
  rcases (h.acc i hA).2 with h1 | h1
  . omega
  . rw [q2] at h1;cases h1
 obtain ⟨ar,ah⟩:=ztp h.rise (n:=c.first+i) (by omega) (by omega)
 obtain ⟨u1,u2,u3,u4,u5,u6⟩:=zie (n:=r.cum) ar
 have hhas:∀ m:Int,(m <= (up (add r.spans (c.first+i)) r.cum).1 \/ has (up (add r.spans (c.first+i)) r.cum).2 m=true) ↔ (m <= r.cum \/ has r.spans m=true \/ m=c.first+i):=by
  intro m
  constructor
  . intro hm
    rcases up_or ar hm with h1 | h1
    . exact .inl h1
    . rw [ah,Bool.or_eq_true,decide_eq_true_eq] at h1
      exact .inr h1
  . intro hm
    refine yon ar ?_
    rw [ah,Bool.or_eq_true,decide_eq_true_eq]
    exact hm
 have hsp:∀ s ∈ add r.spans (c.first+i),s.hi < c.first+H.length:=by
  have:=ykc (n:=c.first+i) (M:=c.first+H.length - 1) h.rise (by omega) (by omega) (fun s hs=>by have:=h.spanh s hs;omega) (by omega)
  intro s hs;have:=this s hs;omega
 have hcov:∀ (j:Nat) z,H[j]?=some z -> (c.first+j <= r.cum \/ has r.spans (c.first+j)=true \/ (c.first+(j:Int))=c.first+i) -> (A j \/ j=i) \/ F z.id:=by
  intro j z hz hj
  rcases hj with h1 | h1 | h1
  . exact (h.cum j z hz h1).imp .inl (fun z=>z)
  . exact .inl (.inl (h.span j h1))
  . exact .inl (.inr (by omega))
 unfold Rcv.put
 rw [hnear]
 refine ⟨by dsimp only;omega,?_,u3,u5,fun s hs=>hsp s (u4 s hs),fun j hj=>?_,fun j z hz hle=>hcov j z hz ((hhas _).1 (.inl hle)),fun j hj=>?_,fun p hp=>?_,?_,fun j z hz hj=>?_,h.logl,h.log,h.once,fun id hid=>⟨(h.dall id hid).1,fun j z hz he hd2=>.inl ((h.dall id hid).2 j z hz he hd2)⟩,h.streams,h.turn0,h.turn,h.past,h.dturn,h.dord⟩
 . dsimp only
   rcases u6 with u6 | ⟨s,hs,u6⟩
   . omega
   . have:=hsp s hs;omega
 . rcases (hhas _).1 (.inr hj) with h1 | h1 | h1
   . exfalso
     obtain ⟨s,s1,s2,s3⟩:=zic.1 hj
     have:=u5 s s1
     omega
   . exact .inl (h.span j h1)
   . exact .inr (by omega)
 . rcases hj with hj | rfl
   . obtain ⟨k1,k2⟩:=h.acc j hj
     exact ⟨k1,(hhas _).2 (k2.imp (fun z=>z) .inl)⟩
   . exact ⟨hil,(hhas _).2 (.inr (.inr rfl))⟩
 . rcases List.mem_append.1 hp with hp | hp
   . obtain ⟨j,z,k1,k2,k3,k4,k5,k6⟩:=h.pieces p hp
     exact ⟨j,z,k1,k2,k3,k4,.inl k5,k6⟩
   . rw [List.mem_singleton] at hp;subst hp
     refine ⟨i,y,hy,rfl,hch,by rw [<- hch];exact hd,.inr rfl,fun hin=>hnA ((h.dall y.id hin).2 i y hy rfl (by rw [<- hch];exact hd))⟩
 . refine List.pairwise_append.2 ⟨h.apart,by simp,fun p hp q hq=>?_⟩
   rw [List.mem_singleton] at hq;subst hq
   obtain ⟨j,z,k1,k2,k3,k4,k5,k6⟩:=h.pieces p hp
   intro e
   have e:p.number=c.first+i:=e
   have:j=i:=by omega
   subst this
   exact hnA k5
 . rcases hj with hj | rfl
   . rcases h.kept j z hz hj with ⟨p,p1,p2⟩ | h1
     . exact .inl ⟨p,List.mem_append_left _ p1,p2⟩
     . exact .inr h1
   . exact .inl ⟨⟨c.first+j,ch⟩,by simp,rfl⟩
theorem yqw (h:GR c L H A F D r) (hs:H.length <= 30500) {ch:Chunk} (hi:HI c L H) (hc0:0 <= c.first /\ c.first < 65536) (hP:1 <= c.part) (hok:zph H ch):∃ A' D',GR c L H A' F D' (data r ch) /\ ∀ i,A i -> A' i:=by
 unfold data
 split
 . rename_i ht
   obtain ⟨i,y,h1,h2,h3⟩:=hok
   have hp:=ysc h hs hi hc0 h1 h2 h3 ht
   have hst:=ht.high
   have hst0:=ht.low
   split
   . obtain ⟨D',g⟩:=zpj (D:=D) hi hP hs ch.stream.toNat ((put r ch).pieces.length+1) hp (by show ch.stream.toNat < r.turn.length;omega)
     exact ⟨_,D',g,fun _=>.inl⟩
   . obtain ⟨D',g⟩:=ysb hp hi hP ch.stream ch.mid
     exact ⟨_,D',g,fun _=>.inl⟩
 . exact ⟨A,D,h,fun _ h=>h⟩
def Shut (c:Config) (L:List Message) (H:List Prt) (F:Nat -> Prop):Prop:=∀ x ∈ H,∀ y ∈ H,Cls x.chunk y.chunk -> x.id < y.id -> F x.id \/ Whole c L H x.id
theorem ykx (h:GR c L H A F D r) {s m:Int} {o:Bool} (hg:∀ y ∈ H,y.chunk.stream=s -> y.chunk.ordered=o -> y.chunk.mid=m -> y.id ∈ D \/ F y.id):GR c L H A F D (dropR r s m o):=by
 refine ⟨h.lo,h.hi,h.rise,h.above,h.spanh,h.span,h.cum,h.acc,fun p hp=>h.pieces p (List.mem_filter.1 hp).1,h.apart.filter _,fun i y hy hA=>?_,h.logl,h.log,h.once,h.dall,h.streams,h.turn0,h.turn,h.past,h.dturn,h.dord⟩
 rcases h.kept i y hy hA with ⟨p,p1,p2⟩ | h1
 . by_cases hm:mine s m o p=true
   . obtain ⟨i',y',z1,z2,z3,z4,z5,z6⟩:=h.pieces p p1
     have:i'=i:=by omega
     subst this
     rw [hy] at z1
     cases z1
     obtain ⟨e1,e2,e3⟩:=zhh.1 hm
     rw [z3] at e1 e2 e3
     exact .inr (hg y (List.mem_of_getElem? hy) e1 e2 e3)
   . exact .inl ⟨p,List.mem_filter.2 ⟨p1,by simp at hm;simp [hm]⟩,p2⟩
 . exact .inr h1
theorem yqx (h:GR c L H A F D r) (hi:HI c L H) (hP:1 <= c.part) (hs:H.length <= 30500) (hsh:Shut c L H F) {n:Int} (hcov:∀ (i:Nat) y,H[i]?=some y -> c.first+i <= n -> A i \/ F y.id) {k:Nat} {t:Int} (hk:r.turn[k]?=some t)
 {i0:Nat} {y0:Prt} (q1:H[i0]?=some y0) (q2:c.first+i0 <= n) (q3:F y0.id) (q4:y0.chunk.stream=k) (q5:y0.chunk.ordered=true) (q6:t <= y0.chunk.mid):∃ D',GR c L H A F D' (pass r k):=by
 obtain ⟨t0,t1⟩:=h.turnB hi hk
 have htag:tag t=t:=by unfold tag;omega
 have hy0:=List.mem_of_getElem? q1
 unfold pass
 rw [show r.turn[k]?.getD 0=t by rw [hk];rfl]
 cases hj:join (r.pieces.filter (mine k (tag t) true)) with
 | some b =>
  have hok:(dlv r k (tag t) true).2=true:=by rw [zud r k (tag t) true hj]
  rw [if_pos hok]
  exact yom h hi hP hs hk hok
 | none =>
  rw [zxg r k (tag t) true hj]
  rw [if_neg (show ¬ (r,false).2=true from Bool.noConfusion)]
  dsimp only
  rw [htag] at hj ⊢
  have hg:∀ y ∈ H,y.chunk.stream=k -> y.chunk.ordered=true -> y.chunk.mid=t -> y.id ∈ D \/ F y.id:=by
   intro y hy e1 e2 e3
   have hc:Cls y.chunk y0.chunk:=⟨e1.trans q4.symm,e2.trans q5.symm⟩
   by_cases e4:y.chunk.mid=y0.chunk.mid
   . right;rw [(hi.same hy hy0 hc).2 e4];exact q3
   have hlt:y.id < y0.id:=(hi.key y hy y0 hy0 hc).2 (by omega)
   rcases hsh y hy y0 hy0 hc hlt with hF | hW
   . exact .inr hF
   apply Classical.byContradiction
   intro hno
   have hno:=not_or.1 hno
   obtain ⟨w,w1,w2,w3,w4⟩:=hi.msg y hy
   -- all parts of it are pieces
   have hpc:∀ (i:Nat) z,H[i]?=some z -> z.id=y.id -> ∃ p ∈ r.pieces.filter (mine k t true),p.number=c.first+i /\ p.chunk=z.chunk:=by
    intro i z hz hzi
    have hzm:=List.mem_of_getElem? hz
    have hzc:=hi.cls hzm hy hzi
    have hle:i <= i0:=by
     apply Classical.byContradiction
     intro hgt
     have:=hi.order i0 i y0 z (by omega) q1 hz (hc.symm.trans hzc.symm)
     omega
    have hA:A i:=by
     rcases hcov i z hz (by omega) with h1 | h1
     . exact h1
     . rw [hzi] at h1;exact absurd h1 hno.2
    rcases h.kept i z hz hA with ⟨p,p1,p2⟩ | h1 | h1
    . obtain ⟨i',z',k1,k2,k3,k4,k5,k6⟩:=h.pieces p p1
      have:i'=i:=by omega
      subst this
      rw [hz] at k1
      cases k1
      refine ⟨p,List.mem_filter.2 ⟨p1,zhh.2 ?_⟩,p2,k3⟩
      rw [k3]
      exact ⟨hzc.1.trans e1,hzc.2.trans e2,((hi.same hzm hy hzc).1 hzi).trans e3⟩
    . rw [hzi] at h1;exact absurd h1 hno.1
    . rw [hzi] at h1;exact absurd h1 hno.2
   have hmp:∀ p ∈ r.pieces.filter (mine k t true),∃ (i:Nat) (z:Prt),H[i]?=some z /\ p.number=c.first+i /\ p.chunk=z.chunk /\ z.id=y.id /\ zmi c.part w p.chunk:=by
    intro p hp
    obtain ⟨g1,g2⟩:=List.mem_filter.1 hp
    obtain ⟨i,z,k1,k2,k3,k4,k5,k6⟩:=h.pieces p g1
    obtain ⟨f1,f2,f3⟩:=zhh.1 g2
    rw [k3] at f1 f2 f3
    have hzm:=List.mem_of_getElem? k1
    have hzc:Cls z.chunk y.chunk:=⟨f1.trans e1.symm,f2.trans e2.symm⟩
    have hzi:=(hi.same hzm hy hzc).2 (f3.trans e3.symm)
    obtain ⟨v,v1,-,-,v4⟩:=hi.msg z hzm
    rw [hzi,w1] at v1
    cases v1
    exact ⟨i,z,k1,k2,k3,hzi,by rw [k3];exact v4 k4⟩
   have hne:w.data ≠ []:=by
    intro e
    obtain ⟨i,hii⟩:=List.getElem?_of_mem hy
    obtain ⟨p,p1,p2,p3⟩:=hpc i y hii rfl
    obtain ⟨-,-,-,-,-,-,hpo⟩:=hmp p p1
    have g1:=hpo.inn
    have g2:=hpo.part0
    have g3:0 <= p.chunk.part * c.part:=Int.mul_nonneg g2 (by omega)
    rw [e] at g1
    simp at g1;omega
   obtain ⟨b,hb⟩:=ygb hP (fun p hp=>by obtain ⟨-,-,-,-,-,-,hpo⟩:=hmp p hp;exact hpo)
    ((
     h.apart.filter (mine k t true)).imp_of_mem fun {p q} hp hq hpq e=>by
     obtain ⟨i,z,k1,k2,k3,k4,-⟩:=hmp p hp
     obtain ⟨j,z',l1,l2,l3,l4,-⟩:=hmp q hq
     have:=hi.at k1 l1 (k4.trans l4.symm) (by rw [<- k3,<- l3];exact e)
     omega) hne (fun j hjp=>by
     obtain ⟨z,z1,z2,z3,z4⟩:=hW w w1 j hjp
     obtain ⟨i,hii⟩:=List.getElem?_of_mem z1
     obtain ⟨p,p1,p2,p3⟩:=hpc i z hii z2
     exact ⟨p,p1,by rw [p3];exact z3⟩)
   rw [hj] at hb;cases hb
  have hd:=ykx h (s:=k) (m:=t) (o:=true) hg
  refine ⟨D,hd.lo,hd.hi,hd.rise,hd.above,hd.spanh,hd.span,hd.cum,hd.acc,hd.pieces,hd.apart,hd.kept,hd.logl,hd.log,hd.once,hd.dall,by show ((r.turn.set _ _).length:Int)=_;rw [List.length_set];exact h.streams,fun u hu=>?_,fun j u hu=>?_,fun j u hu y hy e1 e2 e3=>?_,fun j u hu y hy hy2 e1 e2=>?_,hd.dord⟩
  . obtain ⟨j,hj2⟩:=List.getElem?_of_mem hu
    rcases zft hk hj2 with ⟨-,rfl⟩ | ⟨-,hu⟩
    . omega
    . exact h.turn0 u (List.mem_of_getElem? hu)
  . rcases zft hk hu with ⟨rfl,rfl⟩ | ⟨-,hu⟩
    . exact .inr ⟨y0,hy0,q4,q5,by omega⟩
    . exact h.turn j u hu
  . rcases zft hk hu with ⟨rfl,rfl⟩ | ⟨-,hu⟩
    . by_cases e:y.chunk.mid=t
      . exact hg y hy e1 e2 e
      . exact h.past j t hk y hy e1 e2 (by omega)
    . exact h.past j u hu y hy e1 e2 e3
  . rcases zft hk hu with ⟨rfl,rfl⟩ | ⟨-,hu⟩
    . have:=h.dturn j t hk y hy hy2 e1 e2;omega
    . exact h.dturn j u hu y hy hy2 e1 e2
theorem zya (hi:HI c L H) (hP:1 <= c.part) (hs:H.length <= 30500) (hsh:Shut c L H F) {n:Int} (hcov:∀ (i:Nat) y,H[i]?=some y -> c.first+i <= n -> A i \/ F y.id) {k:Nat}
 {i0:Nat} {y0:Prt} (q1:H[i0]?=some y0) (q2:c.first+i0 <= n) (q3:F y0.id) (q4:y0.chunk.stream=k) (q5:y0.chunk.ordered=true):∀ (j:Nat) {D:List Nat} {r:Receiver} {t:Int},GR c L H A F D r -> r.turn[k]?=some t -> t+j <= y0.chunk.mid+1 -> ∃ D',GR c L H A F D' (passes j r k)
 | 0,D,r,t,h,_,_=>⟨D,h⟩
 | j+1,D,r,t,h,hk,hle=>by
  rw [passes]
  obtain ⟨D',h'⟩:=yqx h hi hP hs hsh hcov hk q1 q2 q3 q4 q5 (by push_cast at hle;omega)
  have ht:=(ziu r k).1
  exact zya hi hP hs hsh hcov q1 q2 q3 q4 q5 j (t:=t+1) h' (by rw [ht,hk,List.getElem?_set_self (zcn hk)];rfl) (by push_cast at hle;omega)
theorem zri (k:Nat):∀ (j:Nat) (r:Receiver),(passes j r k).turn.length=r.turn.length
 | 0,_=>rfl
 | j+1,r=>by rw [passes,zri k j,(ziu r k).1,List.length_set]
theorem yqy (h:GR c L H A F D r) (hi:HI c L H) (hP:1 <= c.part) (hs:H.length <= 30500) (hsh:Shut c L H F) {n:Int} (hcov:∀ (i:Nat) y,H[i]?=some y -> c.first+i <= n -> A i \/ F y.id) {sk:Skip}
 (hsk:∃ (i:Nat) (y:Prt),H[i]?=some y /\ c.first+i <= n /\ F y.id /\ sk.stream=y.chunk.stream /\ sk.ordered=y.chunk.ordered /\ sk.mid=y.chunk.mid):∃ D',GR c L H A F D' (skip1 r sk):=by
 obtain ⟨i0,y0,q1,q2,q3,q4,q5,q6⟩:=hsk
 have hy0:=List.mem_of_getElem? q1
 have hmid:=hi.mid y0 hy0
 unfold skip1
 by_cases c1:sk.stream < 0 \/ (r.turn.length:Int) <= sk.stream
 . rw [if_pos c1];exact ⟨D,h⟩
 rw [if_neg c1]
 by_cases c2:sk.ordered=false
 . rw [if_pos c2]
   refine ⟨D,ykx h fun y hy e1 e2 e3=>.inr ?_⟩
   rw [(hi.same hy hy0 ⟨e1.trans q4,e2.trans (c2.symm.trans q5)⟩).2 (e3.trans q6)];exact q3
 . rw [if_neg c2]
   have c3:sk.ordered=true:=by simpa using c2
   have hkl:sk.stream.toNat < r.turn.length:=by omega
   obtain ⟨t,ht⟩:∃ t,r.turn[sk.stream.toNat]?=some t:=⟨_,List.getElem?_eq_getElem hkl⟩
   obtain ⟨t0,t1⟩:=h.turnB hi ht
   have hnr:near t sk.mid=sk.mid:=zks (by omega) (by omega) (by omega) (by omega) rfl
   rw [show r.turn[sk.stream.toNat]?.getD 0=t by rw [ht];rfl,hnr]
   unfold upto
   rw [show r.turn[sk.stream.toNat]?.getD 0=t by rw [ht];rfl]
   obtain ⟨D',h'⟩:∃ D',GR c L H A F D' (passes (sk.mid+1 - t).toNat r sk.stream.toNat):=by
    by_cases c4:t <= sk.mid+1
    . exact zya hi hP hs hsh hcov q1 q2 q3 (by omega) (by rw [<- q5];exact c3) _ h ht (by omega)
    . rw [show (sk.mid+1 - t).toNat=0 by omega];exact ⟨D,h⟩
   exact zpj hi hP hs _ _ h' (by rw [zri];exact hkl)
theorem ydu (hi:HI c L H) (hP:1 <= c.part) (hs:H.length <= 30500) (hsh:Shut c L H F) {n:Int} (hcov:∀ (i:Nat) y,H[i]?=some y -> c.first+i <= n -> A i \/ F y.id):∀ (l:List Skip) {D:List Nat} {r:Receiver},GR c L H A F D r ->
 (∀ sk ∈ l,∃ (i:Nat) (y:Prt),H[i]?=some y /\ c.first+i <= n /\ F y.id /\ sk.stream=y.chunk.stream /\ sk.ordered=y.chunk.ordered /\ sk.mid=y.chunk.mid) -> ∃ D',GR c L H A F D' (l.foldl skip1 r)
 | [],D,_,h,_=>⟨D,h⟩
 | sk :: l,D,r,h,hl=>by
  obtain ⟨D',h'⟩:=yqy h hi hP hs hsh hcov (hl sk (by simp))
  exact ydu hi hP hs hsh hcov l h' fun x hx=>hl x (by simp [hx])
theorem ygf (h:GR c L H A F D r) (hi:HI c L H) (hP:1 <= c.part) (hs:H.length <= 30500) (hc0:0 <= c.first /\ c.first < 65536) (hsh:Shut c L H F) {ch:Chunk} (hok:FwdOK c H A F ch):∃ D',GR c L H A F D' (forward r ch):=by
 obtain ⟨n,n1,n2,n3,n4,n5⟩:=hok
 have hlo:=h.lo
 have hhi:=h.hi
 have hnear:near r.cum ch.tag=n:=zks (by omega) (by omega) (by omega) (by omega) n3.symm
 unfold forward
 by_cases c1:¬ ch.kind=3 \/ near r.cum ch.tag <= r.cum
 . rw [if_pos c1];exact ⟨D,h⟩
 rw [if_neg c1,hnear]
 obtain ⟨u1,u2,u3,u4,u5,u6⟩:=zie (n:=n) h.rise
 have hg:GR c L H A F D { r with cum:=(up r.spans n).1,spans:=(up r.spans n).2 }:=by
  refine ⟨by dsimp only;omega,?_,u3,u5,fun s hs=>h.spanh s (u4 s hs),fun i hi2=>?_,fun i y hy hle=>?_,fun i hA=>⟨(h.acc i hA).1,yon h.rise ?_⟩,h.pieces,h.apart,h.kept,h.logl,h.log,h.once,h.dall,h.streams,h.turn0,h.turn,h.past,h.dturn,h.dord⟩
  . dsimp only
    rcases u6 with u6 | ⟨s,hs,u6⟩
    . omega
    . have:=h.spanh s hs;omega
  . obtain ⟨s,s1,s2,s3⟩:=zic.1 hi2
    exact h.span i (zic.2 ⟨s,u4 s s1,s2,s3⟩)
  . rcases up_or h.rise (.inl hle) with h1 | h1
    . exact n4 i y hy h1
    . exact .inl (h.span i h1)
  . have hne:=fun h2=>c1 (.inr h2)
    rcases (h.acc i hA).2 with h1 | h1
    . rw [hnear] at hne;left;omega
    . exact .inr h1
 exact ydu hi hP hs hsh n4 ch.skips hg n5
theorem ynl (h:GR c L H A F D r):zgp c H A F (Chk.clean (tells r)):=by
 have e1:(Chk.clean (tells r)).tag=tag r.cum:=rfl
 have e2:(Chk.clean (tells r)).spans=(r.spans.take 6).map (shift r.cum):=rfl
 refine ⟨r.cum,h.lo,h.hi,by rw [e1];unfold tag;omega,h.cum,fun t ht=>?_,fun i hlt hh=>?_⟩
 . rw [e2] at ht
   obtain ⟨s,hs,rfl⟩:=List.mem_map.1 ht
   have:=h.spanh s (List.mem_of_mem_take hs)
   show r.cum+(s.hi - r.cum) < _;omega
 . rw [e2] at hh
   obtain ⟨t,t1,t2,t3⟩:=zic.1 hh
   obtain ⟨s,hs,rfl⟩:=List.mem_map.1 t1
   have t2:s.lo - r.cum <= c.first+i - r.cum:=t2
   have t3:c.first+i - r.cum <= s.hi - r.cum:=t3
   exact h.span i (zic.2 ⟨s,List.mem_of_mem_take hs,by omega,by omega⟩)
theorem ysd {c:Config} (hc:1 <= c.streams) (L:List Message) (F:Nat -> Prop):GR c L [] (fun _=>False) F [] (newR c):=by
 refine ⟨by show c.first - 1 <= c.first - 1;omega,by show c.first - 1 < c.first+((([]:List Prt).length:Nat):Int);simp;omega,trivial,by simp [newR],by simp [newR],fun i hi=>?_,by simp,fun i h=>h.elim,by simp [newR],by simp [newR],by simp,rfl,by simp,by simp,by simp,?_,fun t ht=>?_,fun k t hk=>?_,by simp,by simp,by simp⟩
 . simp [newR,has] at hi
 . show ((List.replicate _ _).length:Int)=_;rw [List.length_replicate];omega
 . have:t=0:=List.eq_of_mem_replicate ht
   omega
 . exact .inl (List.eq_of_mem_replicate (List.mem_of_getElem? hk))
end
end Gh
end Go.HL
namespace Go.HL
open Go.Proofs
namespace Gh
open Ser Snd Ln
set_option maxHeartbeats 4000000
set_option maxRecDepth 100000
set_option linter.unusedSimpArgs false
def WayOK (c:Config) (H:List Prt) (A F:Nat -> Prop) (p:Packet):Prop:=∀ ch ∈ (Pck.pparse p.bytes).1,if p.back=true then zgp c H A F ch else Sends c H A F ch
structure GL (N M:Nat) (c:Config) (L:List Message) (H:List Prt) (A:Nat -> Prop) (D:List Nat) (l:Line):Prop where
 li:LI N M l
 ki:KI L l.sender
 gs:GS c L H A l.sender
 gr:GR c L H A (gF l.sender) D l.receiver
 way:∀ p ∈ l.way,WayOK c H A (gF l.sender) p
section
variable {N M:Nat} {c:Config} {L:List Message} {H:List Prt} {A F:Nat -> Prop} {D:List Nat} {l:Line}
theorem WayOK.more {E:List Prt} {B G:Nat -> Prop} {p:Packet} (h:WayOK c H A F p) (hA:∀ i,A i -> B i) (hF:∀ i,F i -> G i):WayOK c (H++E) B G p:=fun ch hc=>by
 have:=h ch hc
 split at this
 . rename_i e;rw [if_pos e];exact zgp.more this hA hF
 . rename_i e;rw [if_neg e];exact Sends.more this hA hF
theorem WayOK.more0 {B G:Nat -> Prop} {p:Packet} (h:WayOK c H A F p) (hA:∀ i,A i -> B i) (hF:∀ i,F i -> G i):WayOK c H B G p:=by
 have:=h.more (E:=[]) hA hF
 rwa [List.append_nil] at this
theorem zgp.more0 {B G:Nat -> Prop} {ch:Chunk} (h:zgp c H A F ch) (hA:∀ i,A i -> B i) (hF:∀ i,F i -> G i):zgp c H B G ch:=by
 have:=h.more (E:=[]) hA hF
 rwa [List.append_nil] at this
theorem Sends.more0 {B G:Nat -> Prop} {ch:Chunk} (h:Sends c H A F ch) (hA:∀ i,A i -> B i) (hF:∀ i,F i -> G i):Sends c H B G ch:=by
 have:=h.more (E:=[]) hA hF
 rwa [List.append_nil] at this
theorem GS.shut {s:Sender} (h:GS c L H A s) (hk:KI L s):Shut c L H (gF s):=by
 intro x hx y hy hc hlt
 by_cases hg:gF s x.id
 . exact .inl hg
 right
 obtain ⟨w,w1,w2,w3,-⟩:=h.hi.msg x hx
 rcases h.whole x.id (zcn w1) hg with ⟨m,m1,m2⟩ | h1
 . exfalso
   have hm:=hk.queue m m1
   rw [show m.id.toNat=x.id by omega,w1] at hm
   cases hm
   rcases Int.lt_or_le m.mid 0 with hn | hn
   . have:=(h.fresh m m1 hn).2 x hx ⟨w2,w3⟩
     omega
   . have:=(h.begun m m1 hn).top y hy ⟨hc.1.symm.trans w2,hc.2.symm.trans w3⟩
     omega
 . exact h1
theorem yky {s:Sender} (h:KI L s):KI L (Snd.settle s):=by
 refine ⟨by show (List.mapIdx _ _).length=_;rw [List.length_mapIdx];exact h.len,h.queue,h.out,fun k hk=>h.gone k ?_⟩
 have hk:(s.fates.mapIdx fun id f=>settled s id f)[k]?=some 3:=hk
 rw [List.getElem?_mapIdx] at hk
 cases hz:s.fates[k]? with
 | none=>rw [hz] at hk;cases hk
 | some f =>
  rw [hz] at hk
  have hk:settled s k f=3:=by simpa using hk
  unfold settled at hk
  split at hk
  . cases hk
  . rw [hk]
theorem yqz {s:Sender} (h:KI L s) (ch:Chunk):KI L (hear s ch):=by
 unfold hear
 split
 . exact h
 split
 . exact h
 rename_i c1 c2
 rw [zmw]
 have e1:(Sco.sack s.out s.cum ch s.paths.length).1=(Sco.left ch (near s.cum ch.tag) s.out).map (Sco.age (Sco.zer ch (near s.cum ch.tag) s.out)):=by rw [Sco.sack,if_neg c2]
 have hT:KI L (zfi s ch (Sco.sack s.out s.cum ch s.paths.length)):=by
  refine h.side rfl (fun m hm=>⟨m,hm,rfl,rfl⟩) fun x hx=>?_
  have hx:x ∈ (Sco.sack s.out s.cum ch s.paths.length).1:=hx
  rw [e1] at hx
  obtain ⟨y,hy,rfl⟩:=List.mem_map.1 hx
  obtain ⟨z,hz,rfl⟩:=List.mem_map.1 hy
  refine ⟨z,(List.mem_filter.1 hz).1,?_⟩
  have a1:∀ (k:Int) (y:Sent),(Sco.age k y).id=y.id /\ (Sco.age k y).life=y.life /\ (Sco.age k y).tries=y.tries:=fun k y=>by unfold Sco.age;(repeat' split) <;> exact ⟨rfl,rfl,rfl⟩
  have a2:(Sco.turn ch (near s.cum ch.tag) z).id=z.id /\ (Sco.turn ch (near s.cum ch.tag) z).life=z.life /\ (Sco.turn ch (near s.cum ch.tag) z).tries=z.tries:=by unfold Sco.turn;split <;> exact ⟨rfl,rfl,rfl⟩
  obtain ⟨b1,b2,b3⟩:=a1 (Sco.zer ch (near s.cum ch.tag) s.out) (Sco.turn ch (near s.cum ch.tag) z)
  exact ⟨(b1.trans a2.1).symm,(b2.trans a2.2.1).symm,(b3.trans a2.2.2).symm⟩
 generalize zfi s ch (Sco.sack s.out s.cum ch s.paths.length)=t at hT
 have hU:∀ p l,KI L (zgk p t l):=fun p l=>by
  unfold zgk
  split
  . exact hT
  . split
    . exact hT.side rfl (fun m hm=>⟨m,hm,rfl,rfl⟩) fun x hx=>⟨x,hx,rfl,rfl,rfl⟩
    . exact hT
 refine yky ?_
 unfold zes
 split
 . exact (hU _ _).side rfl (fun m hm=>⟨m,hm,rfl,rfl⟩) fun x hx=>⟨x,hx,rfl,rfl,rfl⟩
 . exact hU _ _
theorem ynm {back:Bool} {x:Line × Bool} {ch:Chunk} (h:GL N M c L H A D x.1) (hN:N <= 500) (hM:M+Rcv.wt ch <= 2 ^ 20) (hok:if back=true then zgp c H A (gF x.1.sender) ch else Sends c H A (gF x.1.sender) ch) :
 ∃ A' D',GL N (M+Rcv.wt ch) c L H A' D' (hear1 back x ch).1 /\ (∀ i,A i -> A' i) /\ ∀ k,gF x.1.sender k -> gF (hear1 back x ch).1.sender k:=by
 have hli:=ztw (back:=back) (c:=ch) h.li hM
 have hw:=zbo h.li.snd.cfg
 rw [h.gs.cfg] at hw
 have hcap:=h.gs.few h.li.snd
 unfold hear1 at hli ⊢
 by_cases cb:back=true
 . rw [if_pos cb] at hok hli ⊢
   obtain ⟨g1,g2⟩:=yqt h.gs h.li.snd hN hok
   exact ⟨A,D,⟨hli,yqz h.ki ch,g1,h.gr.goneMore g2,fun p hp=>(h.way p hp).more0 (fun _ h=>h) g2⟩,fun _ h=>h,g2⟩
 rw [if_neg cb] at hok hli ⊢
 by_cases c1:ch.kind=1
 . rw [if_pos c1] at hli ⊢
   have hd:zph H ch:=by
    rcases hok with hd | ⟨hd,-⟩
    . exact hd
    . rw [c1] at hd;cases hd
   obtain ⟨A',D',g1,g2⟩:=yqw h.gr (by omega) h.gs.hi (by omega) (by omega) hd
   exact ⟨A',D',⟨hli,h.ki,h.gs.more g2,g1,fun p hp=>(h.way p hp).more0 g2 (fun _ h=>h)⟩,g2,fun _ h=>h⟩
 rw [if_neg c1] at hli ⊢
 by_cases c3:ch.kind=3
 . rw [if_pos c3] at hli ⊢
   have hd:FwdOK c H A (gF x.1.sender) ch:=by
    rcases hok with ⟨i,y,h1,h2,-⟩ | ⟨-,hd⟩
    . exact absurd (h2 ▸ (h.gs.hi.tag i y h1).1) c1
    . exact hd
   obtain ⟨D',g1⟩:=ygf h.gr h.gs.hi (by omega) (by omega) (by omega) (h.gs.shut h.ki) hd
   exact ⟨A,D',⟨hli,h.ki,h.gs,g1,h.way⟩,fun _ h=>h,fun _ h=>h⟩
 rw [if_neg c3] at hli ⊢
 exact ⟨A,D,⟨hli,h.ki,h.gs,h.gr,h.way⟩,fun _ h=>h,fun _ h=>h⟩
theorem ydv {back:Bool} (hN:N <= 500):∀ (cs:List Chunk) {M:Nat} {A:Nat -> Prop} {D:List Nat} {x:Line × Bool},GL N M c L H A D x.1 -> M+Rcv.wts cs <= 2 ^ 20 -> (∀ ch ∈ cs,if back=true then zgp c H A (gF x.1.sender) ch else Sends c H A (gF x.1.sender) ch) ->
 ∃ A' D',GL N (M+Rcv.wts cs) c L H A' D' (cs.foldl (hear1 back) x).1
 | [],M,A,D,x,h,_,_=>⟨A,D,h⟩
 | ch :: cs,M,A,D,x,h,hM,hok=>by
  rw [Rcv.ziv] at hM ⊢
  obtain ⟨A',D',g1,g2,g3⟩:=ynm (back:=back) h hN (by omega) (hok ch (by simp))
  have:=ydv (back:=back) hN cs g1 (by omega) fun z hz=>by
   have:=hok z (by simp [hz])
   split at this
   . rename_i e;rw [if_pos e];exact zgp.more0 this g2 g3
   . rename_i e;rw [if_neg e];exact Sends.more0 this g2 g3
  rw [<- Nat.add_assoc];exact this
theorem GL.more (h:GL N M c L H A D l) {M':Nat} (h1:M <= M') (h2:M' <= 2 ^ 20):GL N M' c L H A D l:=⟨h.li.more h1 h2,h.ki,h.gs,h.gr,h.way⟩
theorem GL.put (h:GL N M c L H A D l) {ps:List Packet} (hp:∀ p ∈ ps,p.bytes.length <= 120) (hw:∀ p ∈ ps,WayOK c H A (gF l.sender) p):GL N M c L H A D { l with way:=putW l.way ps } :=
 ⟨zxj h.li hp,h.ki,h.gs,h.gr,fun p hq=>by rcases ztv ps _ p hq with hq | hq;exact h.way p hq;exact hw p hq⟩
theorem yra (h:GL N M c L H A D l) (path:Int):GL N M c L H A D (told path l):=by
 unfold told
 split
 . rename_i c1
   refine h.put (fun p hp=>?_) fun p hp ch hc=>?_
   . rw [List.mem_singleton] at hp;subst hp
     have:=zlo [Rcv.tells l.receiver] 120 (by decide)
     dsimp only;omega
   . rw [List.mem_singleton] at hp;subst hp
     rw [if_pos rfl]
     obtain ⟨d,hd,rfl⟩:=zxy c1 ch hc
     rw [List.mem_singleton] at hd;subst hd
     exact ynl h.gr
 . exact h
theorem yrb (h:GL N M c L H A D l) (hN:N <= 500) {p:Packet} (hp:p.bytes.length <= 120) (hw:WayOK c H A (gF l.sender) p) (hM:M+120 <= 2 ^ 20):∃ A' D',GL N (M+120) c L H A' D' (come l p):=by
 have hwt:=(zpe p.bytes).1
 obtain ⟨A',D',g⟩:=ydv (back:=p.back) hN (Pck.pparse p.bytes).1 (x:=(l,false)) h (by omega) hw
 have g2:GL N (M+120) c L H A' D' (ziw l p).1:=g.more (by omega) hM
 unfold come
 split
 . exact ⟨A,D,h.more (by omega) hM⟩
 split
 . exact ⟨A',D',yra g2 _⟩
 . exact ⟨A',D',g2⟩
theorem zpk (h:GL N M c L H A D l) (hN:N <= 500):∃ E,GL N M c L (H++E) A D (emit l):=by
 obtain ⟨E,g1,g2,g3⟩:=yqs h.gs h.li.snd hN h.ki
 have hli:=zpf h.li
 refine ⟨E,hli,yqj h.ki h.li.snd,g1,(h.gr.goneMore g2).ext g1.hi,fun p hp=>?_⟩
 rcases ztv _ _ p hp with hp | hp
 . exact (h.way p hp).more (fun _ h=>h) g2
 . obtain ⟨b1,b2⟩:=g3 p hp
   intro ch hc
   rw [b1,if_neg (by decide)]
   exact b2 ch hc
theorem GL.nmore (h:GL N M c L H A D l) {N':Nat} (h1:N <= N') (h2:N' <= 2 ^ 20):GL N' M c L H A D l:=⟨⟨h.li.snd.mono h1 h2,h.li.rcv,h.li.small,h.li.way,h.li.bytes⟩,h.ki,h.gs,h.gr,h.way⟩
def took (x:Step) (a:Answer):List Message:=if x.kind=1 /\ a.err=0 then [x.message] else []
theorem yse (h:GL N M c L H A D l) (x:Step) (hN:N+1 <= 500) (hM:M+120 <= 2 ^ 20):∃ E A' D',GL (N+1) (M+120) c (L++took x (doS l x).2) (H++E) A' D' (doS l x).1:=by
 have h0:GL (N+1) (M+120) c L H A D l:=(h.nmore (by omega) (by omega)).more (by omega) hM
 have same:∀ a:Answer,took x a=[] -> ∃ E A' D',GL (N+1) (M+120) c (L++took x a) (H++E) A' D' l:=fun a e=>⟨[],A,D,by rw [e,List.append_nil,List.append_nil];exact h0⟩
 unfold doS
 by_cases c1:x.kind=1
 . rw [if_pos c1]
   by_cases c2:zdv l.sender x.message=0
   . rw [if_pos c2]
     obtain ⟨g1,g2⟩:=yqv h.gs h.li.snd h.ki x.message
     have hs:GL (N+1) (M+120) c (L++[x.message]) H A D { l with sender:=sendS l.sender x.message } :=
      ⟨⟨zzv h.li.snd c2 (by omega),h0.li.rcv,hM,h.li.way,h.li.bytes⟩,yqk h.ki h.li.snd x.message,g1,(h.gr.lMore x.message).goneMore g2,fun p hp=>(h.way p hp).more0 (fun _ h=>h) g2⟩
     obtain ⟨E,g⟩:=zpk hs (by omega)
     refine ⟨E,A,D,?_⟩
     rw [show took x ⟨0,(l.sender.fates.length:Int)⟩=[x.message] from if_pos ⟨c1,rfl⟩]
     exact g
   . rw [if_neg c2]
     exact same _ (if_neg fun h=>c2 h.2)
 rw [if_neg c1]
 have nt:∀ a:Answer,took x a=[]:=fun a=>if_neg fun h=>c1 h.1
 have fin:∀ {A':Nat -> Prop} {D':List Nat} {y:Line} {a:Answer},(∃ E,GL (N+1) (M+120) c L (H++E) A' D' y) -> ∃ E A' D',GL (N+1) (M+120) c (L++took x a) (H++E) A' D' y:=by
  rintro A' D' y a ⟨E,g⟩
  exact ⟨E,A',D',by rw [nt a,List.append_nil];exact g⟩
 by_cases c2:x.kind=2 \/ x.kind=3 \/ x.kind=4
 . rw [if_pos c2]
   by_cases c3:x.n < 0
   . rw [if_pos c3];exact same _ (nt _)
   rw [if_neg c3]
   cases hp:l.way[x.n.toNat]? with
   | none=>exact same _ (nt _)
   | some p =>
    dsimp only
    have hpm:=List.mem_of_getElem? hp
    have hb:=h.li.bytes p hpm
    have hw:=h.way p hpm
    by_cases c4:x.kind=4
    . rw [if_pos c4]
      exact fin (zpk (h0.put (fun q hq=>by rw [List.mem_singleton] at hq;subst hq;exact hb) fun q hq=>by rw [List.mem_singleton] at hq;subst hq;exact hw) (by omega))
    rw [if_neg c4]
    have he:GL (N+1) M c L H A D { l with way:=l.way.eraseIdx x.n.toNat }:=by
     have h1:=h.nmore (N':=N+1) (by omega) (by omega)
     exact ⟨⟨h1.li.snd,h1.li.rcv,h1.li.small,by show (l.way.eraseIdx _).length <= 40;have:=h.li.way;rw [List.length_eraseIdx];split <;> omega,fun q hq=>h.li.bytes q (List.mem_of_mem_eraseIdx hq)⟩,h1.ki,h1.gs,h1.gr,fun q hq=>h.way q (List.mem_of_mem_eraseIdx hq)⟩
    by_cases c5:x.kind=2
    . rw [if_pos c5]
      obtain ⟨A',D',g⟩:=yrb he (by omega) hb hw hM
      exact fin (zpk g (by omega))
    . rw [if_neg c5]
      exact fin (zpk (he.more (by omega) hM) (by omega))
 rw [if_neg c2]
 by_cases c5:x.kind=5
 . rw [if_pos c5]
   obtain ⟨g1,g2⟩:=yqu h.gs
   have g3:∀ k,gF l.sender k ↔ gF (tick l.sender) k:=fun k=>by unfold gF;rw [g2]
   have ht:GL (N+1) (M+120) c L H A D { l with sender:=tick l.sender } :=
    ⟨⟨zzx h0.li.snd,h0.li.rcv,hM,h.li.way,h.li.bytes⟩,yql h.ki,g1,h.gr.goneMore fun k=>(g3 k).1,fun p hp=>(h.way p hp).more0 (fun _ h=>h) fun k=>(g3 k).1⟩
   exact fin (zpk ht (by omega))
 . rw [if_neg c5];exact same _ (nt _)
def takes:List Step -> List Answer -> List Message
 | x :: l,a :: b=>took x a++takes l b
 | _,_=>[]
theorem ydw:∀ (a:List Step) {N M:Nat} {L:List Message} {H:List Prt} {A:Nat -> Prop} {D:List Nat} {l:Line},GL N M c L H A D l -> N+a.length <= 500 -> M+120 * a.length <= 2 ^ 20 -> ∃ H' A' D',GL (N+a.length) (M+120 * a.length) c (L++takes a (play l a).2) H' A' D' (play l a).1
 | [],N,M,L,H,A,D,l,h,_,_=>⟨H,A,D,by show GL N M c (L++[]) H A D l;rw [List.append_nil];exact h⟩
 | x :: a,N,M,L,H,A,D,l,h,h1,h2=>by
  simp only [List.length_cons] at h1 h2 ⊢
  obtain ⟨E,A',D',g⟩:=yse h x (by omega) (by omega)
  obtain ⟨H2,A2,D2,g2⟩:=ydw a g (by omega) (by omega)
  refine ⟨H2,A2,D2,?_⟩
  rw [show N+(a.length+1)=N+1+a.length by omega,show M+120 * (a.length+1)=M+120+120 * a.length by omega]
  rw [List.append_assoc] at g2
  exact g2
theorem yrc {c:Config} (hw:wrgS c=0):GL 0 0 c [] [] (fun _=>False) [] (newL c) :=
 ⟨zty hw,⟨rfl,by simp [newL,newS],by simp [newL,newS],by simp [newL,newS]⟩,ysa hw _,ysd (by have:=zbo hw;omega) _ _,by simp [newL]⟩
structure Books (L:List Message) (lg:List Arrival) (D:List Nat):Prop where
 len:D.length=lg.length
 log:∀ (k:Nat) id a,D[k]?=some id -> lg[k]?=some a -> ∃ m,L[id]?=some m /\ a.stream=m.stream /\ a.ordered=m.ordered /\ a.data=m.data
 once:D.Nodup
 turn:∀ (i j:Nat) a b x y,i < j -> D[i]?=some a -> D[j]?=some b -> lg[i]?=some x -> lg[j]?=some y -> x.stream=y.stream -> x.ordered=true -> y.ordered=true -> a < b
theorem GL.books (h:GL N M c L H A D l):Books L l.receiver.log D:=by
 refine ⟨h.gr.logl,fun k id a h1 h2=>?_,h.gr.once,fun i j a b x y hij h1 h2 h3 h4 h5 h6 h7=>?_⟩
 . obtain ⟨m,m1,m2,m3,m4,-⟩:=h.gr.log k id a h1 h2
   exact ⟨m,m1,m2,m3,m4⟩
 . obtain ⟨m,m1,m2,m3,m4,u,u1,u2⟩:=h.gr.log i a x h1 h3
   obtain ⟨n,n1,n2,n3,n4,v,v1,v2⟩:=h.gr.log j b y h2 h4
   obtain ⟨hi,e1⟩:=List.getElem?_eq_some_iff.1 h1
   obtain ⟨hj,e2⟩:=List.getElem?_eq_some_iff.1 h2
   have:=List.pairwise_iff_getElem.1 h.gr.dord i j hi hj hij
   rw [e1,e2] at this
   obtain ⟨w,w1,w2,w3,-⟩:=h.gs.hi.msg u u1
   rw [u2,m1] at w1
   cases w1
   obtain ⟨z,z1,z2,z3,-⟩:=h.gs.hi.msg v v1
   rw [v2,n1] at z1
   cases z1
   exact this u u1 v v1 u2 v2 ⟨by rw [w2,z2,<- m2,<- n2];exact h5,by rw [w3,z3,<- m3,<- n3,h6,h7]⟩ (by rw [w3,<- m3];exact h6)
end
end Gh
end Go.HL
namespace Go.HL
open Go.Proofs
namespace Gh
open Ser Snd Ln
set_option maxHeartbeats 4000000
set_option maxRecDepth 100000
set_option linter.unusedSimpArgs false
theorem ykz (l:List UInt8):∀ (k i:Nat) (r:List UInt8),k=l.length - i -> ByteArray.toList.loop (⟨l.toArray⟩:ByteArray) i r=r.reverse++l.drop i
 | 0,i,r,h=>by
  rw [ByteArray.toList.loop,if_neg (by show ¬ i < l.toArray.size;simp;omega),List.drop_eq_nil_of_le (by omega),List.append_nil]
 | k+1,i,r,h=>by
  have hi:i < l.length:=by omega
  rw [ByteArray.toList.loop,if_pos (by show i < l.toArray.size;simpa using hi),ykz l k (i+1) _ (by omega),List.drop_eq_getElem_cons hi]
  have:(⟨l.toArray⟩:ByteArray).get! i=l[i]:=by
   show l.toArray[i]! = l[i]
   simp [hi]
  rw [this];simp
theorem toList_mk (l:List UInt8):(⟨l.toArray⟩:ByteArray).toList=l:=by
 rw [ByteArray.toList,ykz l (l.length - 0) 0 [] rfl];simp
theorem ysf (l m:List UInt8):((⟨l.toArray⟩:ByteArray).toList == (⟨m.toArray⟩:ByteArray).toList)=decide (l=m):=by
 rw [toList_mk,toList_mk,Bool.eq_iff_iff];simp
def lkp:List (Int × Int) -> Int -> Int
 | [],_=>0
 | (k,v) :: r,s=>if s=k then v else lkp r s
def upd:List (Int × Int) -> Int -> Int -> List (Int × Int)
 | [],k,v=>[(k,v)]
 | (k',v') :: r,k,v=>if k=k' then (k,v) :: r else (k',v') :: upd r k v
theorem zue (k v s:Int):∀ E:List (Int × Int),lkp (upd E k v) s=if s=k then v else lkp E s
 | []=>rfl
 | (k',v') :: r=>by
  rw [upd]
  by_cases e:k=k'
  . rw [if_pos e,lkp,lkp,<- e]
    by_cases e2:s=k
    . rw [if_pos e2,if_pos e2]
    . rw [if_neg e2,if_neg e2,if_neg e2]
  . rw [if_neg e,lkp,lkp,zue k v s r]
    by_cases e2:s=k'
    . rw [if_pos e2,if_pos e2,if_neg (by omega)]
    . rw [if_neg e2,if_neg e2]
def entI (p:Int × Int):Value × List PV:=(.int .i64 p.1,[pi p.2])
theorem zyb (s:Int):∀ E:List (Int × Int),(findV (E.map entI) (.int .i64 s)=none /\ lkp E s=0) \/ findV (E.map entI) (.int .i64 s)=some [pi (lkp E s)]
 | []=>.inl ⟨rfl,rfl⟩
 | (k,v) :: r=>by
  rw [List.map_cons,entI,findV,lkp]
  by_cases e:s=k
  . subst e;right;simp [keyEq]
  . have:keyEq (.int .i64 s) (.int .i64 k)=false:=by simpa [keyEq] using e
    rw [this,if_neg e];exact zyb s r
theorem ydx (s v:Int):∀ E:List (Int × Int),putV (E.map entI) (.int .i64 s) [pi v]=(upd E s v).map entI
 | []=>rfl
 | (k',v') :: r=>by
  rw [List.map_cons,show entI (k',v')=(.int .i64 k',[pi v']) from rfl,putV,ydx s v r,upd]
  by_cases e:s=k'
  . subst e;simp [keyEq,entI]
  . have:keyEq (.int .i64 s) (.int .i64 k')=false:=by simpa [keyEq] using e
    rw [this,if_neg e];rfl
def fst1 (q:Nat -> Message -> Bool):Nat -> List Message -> Int
 | _,[]=>-1
 | k,m :: r=>if q k m=true then k else fst1 q (k+1) r
theorem zdr {q:Nat -> Message -> Bool} {m:Message}:∀ (X:List Message) (k:Nat),fst1 q k (X++[m])=if fst1 q k X < 0 /\ q (k+X.length) m=true then ((k+X.length:Nat):Int) else fst1 q k X
 | [],k=>by
  show (if q k m=true then (k:Int) else -1)=if (-1:Int) < 0 /\ q (k+0) m=true then ((k+0:Nat):Int) else -1
  simp
 | x :: X,k=>by
  rw [List.cons_append,fst1,fst1]
  split
  . rw [if_neg (by omega)]
  . rw [zdr X (k+1),List.length_cons,show k+1+X.length=k+(X.length+1) by omega]
theorem zyc {q:Nat -> Message -> Bool}:∀ {l:List Message} {k:Nat},0 <= fst1 q k l -> ∃ (i:Nat) (m:Message),l[i]?=some m /\ fst1 q k l=((k+i:Nat):Int) /\ q (k+i) m=true
 | [],k,h=>by simp [fst1] at h
 | x :: l,k,h=>by
  rw [fst1] at h ⊢
  split at h
  . rename_i c
    rw [if_pos c];exact ⟨0,x,rfl,rfl,c⟩
  . rename_i c
    rw [if_neg c]
    obtain ⟨i,m,h1,h2,h3⟩:=zyc h
    exact ⟨i+1,m,h1,by rw [h2];congr 1;omega,by rw [show k+(i+1)=k+1+i by omega];exact h3⟩
theorem yai {q:Nat -> Message -> Bool}:∀ {l:List Message} {k i:Nat} {m:Message},l[i]?=some m -> q (k+i) m=true -> 0 <= fst1 q k l /\ fst1 q k l <= ((k+i:Nat):Int)
 | [],k,i,m,h,_=>by simp at h
 | x :: l,k,i,m,h,hq=>by
  rw [fst1]
  split
  . exact ⟨by omega,by omega⟩
  . rename_i c
    cases i with
    | zero =>
     simp only [List.getElem?_cons_zero,Option.some.injEq] at h
     subst h;exact absurd hq c
    | succ i =>
     have:=yai (l:=l) (k:=k+1) (i:=i) (by simpa using h) (by rw [show k+1+i=k+(i+1) by omega];exact hq)
     rw [show k+(i+1)=k+1+i by omega];exact this
def SameM (m:Message) (a:Arrival):Prop:=m.stream=a.stream /\ m.ordered=a.ordered /\ m.data=a.data
def wants (B:List Bool) (E:List (Int × Int)) (a:Arrival) (k:Nat) (m:Message):Bool :=
 !(B[k]?.getD false) && (decide (m.stream=a.stream) && ((m.ordered == a.ordered) && (decide (m.data=a.data) && (!a.ordered || decide (lkp E a.stream <= (k:Int))))))
theorem zpl {B:List Bool} {E:List (Int × Int)} {a:Arrival} {k:Nat} {m:Message}:wants B E a k m=true ↔ B[k]?.getD false=false /\ SameM m a /\ (a.ordered=true -> lkp E a.stream <= (k:Int)):=by
 unfold wants SameM
 simp only [Bool.and_eq_true,Bool.not_eq_true',decide_eq_true_eq,beq_iff_eq,Bool.or_eq_true]
 constructor
 . rintro ⟨h1,h2,h3,h4,h5⟩
   refine ⟨h1,⟨h2,h3,h4⟩,fun h=>?_⟩
   rcases h5 with h5 | h5
   . rw [h] at h5;cases h5
   . exact h5
 . rintro ⟨h1,⟨h2,h3,h4⟩,h5⟩
   refine ⟨h1,h2,h3,h4,?_⟩
   cases ho:a.ordered with
   | false=>exact .inl rfl
   | true=>exact .inr (h5 ho)
structure Once (T:List Message) (lg:List Arrival) (D:List Nat) (A:List Arrival) (U:List Nat) (B:List Bool) (E:List (Int × Int)):Prop where
 bl:B.length=T.length
 mark:∀ i:Nat,B[i]?.getD false=true ↔ i ∈ U
 len:U.length=A.length
 nod:U.Nodup
 cls:∀ (j:Nat) u a,U[j]?=some u -> A[j]?=some a -> ∃ m,T[u]?=some m /\ SameM m a
 low:∀ u ∈ U,∀ m,T[u]?=some m -> m.ordered=true -> (u:Int) < lkp E m.stream
 ahead:∀ (j:Nat) a d,A.length <= j -> lg[j]?=some a -> a.ordered=true -> D[j]?=some d -> lkp E a.stream <= (d:Int)
theorem ynn (T:List Message) (lg:List Arrival) (D:List Nat):Once T lg D [] [] (List.replicate T.length false) [] :=
 ⟨by simp,fun i=>by rw [List.getElem?_replicate];split <;> simp,rfl,by simp,by simp,by simp,fun j a d _ _ _ _=>by simp [lkp]⟩
theorem zyd {α:Type} [DecidableEq α]:∀ {X Y:List α},X.Nodup -> (∀ x ∈ X,x ∈ Y) -> X.length <= Y.length
 | [],_,_,_=>Nat.zero_le _
 | x :: X,Y,hn,h=>by
  obtain ⟨h1,h2⟩:=List.nodup_cons.1 hn
  have ih:=zyd (Y:=Y.erase x) h2 fun y hy=>(List.mem_erase_of_ne (fun e=>h1 (by rw [<- e];exact hy))).2 (h y (by simp [hy]))
  have hx:x ∈ Y:=h x (by simp)
  rw [List.length_erase_of_mem hx] at ih
  have:=List.length_pos_of_mem hx
  rw [List.length_cons];omega
theorem yaj {α β:Type} {p:β -> Bool}:∀ {l:List α} {m:List β},l.length=m.length -> ((l.zip m).filter fun z=>p z.2).length=(m.filter p).length
 | [],[],_=>rfl
 | [],_ :: _,h=>by simp at h
 | _ :: _,[],h=>by simp at h
 | x :: l,y :: m,h=>by
  have ih:=yaj (p:=p) (l:=l) (m:=m) (by simpa using h)
  rw [List.zip_cons_cons,List.filter_cons,List.filter_cons]
  dsimp only
  split <;> simp [ih]
theorem yak {α β:Type} {p:α × β -> Bool}:∀ {l:List α} {m:List β},(((l.zip m).filter p).map Prod.fst).Sublist l
 | [],m=>by simp
 | x :: l,[]=>by simp
 | x :: l,y :: m=>by
  rw [List.zip_cons_cons,List.filter_cons]
  split
  . exact (yak (l:=l) (m:=m)).cons_cons x
  . exact (yak (l:=l) (m:=m)).cons x
theorem ysg {α β:Type} {p:α × β -> Bool} {l:List α} {m:List β} {x:α} (h:x ∈ ((l.zip m).filter p).map Prod.fst):∃ (k:Nat) (y:β),l[k]?=some x /\ m[k]?=some y /\ p (x,y)=true:=by
 obtain ⟨z,hz,rfl⟩:=List.mem_map.1 h
 obtain ⟨h1,h2⟩:=List.mem_filter.1 hz
 obtain ⟨k,hk⟩:=List.getElem?_of_mem h1
 rw [List.getElem?_zip_eq_some] at hk
 exact ⟨k,z.2,hk.1,hk.2,h2⟩
theorem ysh {α β:Type} {p:α × β -> Bool} {l:List α} {m:List β} {k:Nat} {x:α} {y:β} (h1:l[k]?=some x) (h2:m[k]?=some y) (h3:p (x,y)=true):x ∈ ((l.zip m).filter p).map Prod.fst:=by
 refine List.mem_map.2 ⟨(x,y),List.mem_filter.2 ⟨List.mem_of_getElem? (i:=k) ?_,h3⟩,rfl⟩
 rw [List.getElem?_zip_eq_some];exact ⟨h1,h2⟩
def sameA (a b:Arrival):Bool:=decide (b.stream=a.stream) && ((b.ordered == a.ordered) && decide (b.data=a.data))
theorem zpm {a b:Arrival}:sameA a b=true ↔ b.stream=a.stream /\ b.ordered=a.ordered /\ b.data=a.data:=by
 unfold sameA;simp
section
variable {T:List Message} {lg:List Arrival} {D:List Nat} {A A':List Arrival} {a:Arrival} {U:List Nat} {B:List Bool} {E:List (Int × Int)}
theorem ygg (hb:Books T lg D) (h:Once T lg D A U B E) (he:lg=A++a :: A'):0 <= fst1 (wants B E a) 0 T /\ (a.ordered=true -> ∀ d,D[A.length]?=some d -> fst1 (wants B E a) 0 T <= d):=by
 have ha:lg[A.length]?=some a:=by rw [he];simp
 have hDl:=hb.len
 obtain ⟨d,hd⟩:∃ d,D[A.length]?=some d:=⟨_,List.getElem?_eq_getElem (by have:=zcn ha;omega)⟩
 obtain ⟨m,m1,m2,m3,m4⟩:=hb.log _ d a hd ha
 cases ho:a.ordered with
 | true =>
  have hw:wants B E a (0+d) m=true:=by
   rw [Nat.zero_add]
   refine zpl.2 ⟨?_,⟨m2.symm,m3.symm,m4.symm⟩,fun _=>h.ahead A.length a d (Nat.le_refl _) ha ho hd⟩
   cases hB:B[d]?.getD false with
   | false=>rfl
   | true =>
    have h1:=h.low d ((h.mark d).1 hB) m m1 (by rw [<- m3];exact ho)
    have h2:=h.ahead A.length a d (Nat.le_refl _) ha ho hd
    rw [m2] at h2;omega
  have:=yai m1 hw
  refine ⟨this.1,fun _ e he=>?_⟩
  rw [hd] at he;cases he
  rw [Nat.zero_add] at this;exact this.2
 | false =>
  refine ⟨?_,fun h=>by cases h⟩
  apply Classical.byContradiction
  intro hneg
  have hall:∀ (i:Nat) w,T[i]?=some w -> SameM w a -> i ∈ U:=by
   intro i w hw hs
   apply Classical.byContradiction
   intro hi
   have:wants B E a (0+i) w=true:=by
    rw [Nat.zero_add]
    refine zpl.2 ⟨?_,hs,fun h=>by rw [ho] at h;cases h⟩
    cases hB:B[i]?.getD false with
    | false=>rfl
    | true=>exact absurd ((h.mark i).1 hB) hi
   exact hneg (yai hw this).1
  have hsplit:D=D.take A.length++d :: D.drop (A.length+1):=by
   obtain ⟨hk,e⟩:=List.getElem?_eq_some_iff.1 hd
   rw [<- e,List.getElem_cons_drop,List.take_append_drop]
  have hDA:(D.take A.length).length=A.length:=by have:=zcn hd;rw [List.length_take];omega
  have hX:((((D.take A.length++[d]).zip (A++[a])).filter fun z=>sameA a z.2).map Prod.fst).Nodup:=by
   refine yak.nodup ?_
   have:=hb.once
   rw [hsplit] at this
   refine this.sublist ?_
   rw [show D.take A.length++d :: D.drop (A.length+1)=(D.take A.length++[d])++D.drop (A.length+1) by simp]
   exact List.sublist_append_left _ _
  have hsub:∀ x ∈ (((D.take A.length++[d]).zip (A++[a])).filter fun z=>sameA a z.2).map Prod.fst,x ∈ ((U.zip A).filter fun z=>sameA a z.2).map Prod.fst:=by
   intro x hx
   obtain ⟨k,b,k1,k2,k3⟩:=ysg hx
   obtain ⟨e1,e2,e3⟩:=zpm.1 k3
   have hkD:D[k]?=some x:=by
    rw [hsplit,show D.take A.length++d :: D.drop (A.length+1)=(D.take A.length++[d])++D.drop (A.length+1) by simp]
    exact zeu k1
   have hkL:lg[k]?=some b:=by
    rw [he,show A++a :: A'=(A++[a])++A' by simp]
    exact zeu k2
   obtain ⟨w,w1,w2,w3,w4⟩:=hb.log k x b hkD hkL
   have hxU:=hall x w w1 ⟨by rw [<- w2];exact e1,by rw [<- w3];exact e2,by rw [<- w4];exact e3⟩
   obtain ⟨j,hj⟩:=List.getElem?_of_mem hxU
   obtain ⟨b',hb'⟩:∃ b',A[j]?=some b':=⟨_,List.getElem?_eq_getElem (by have:=zcn hj;rw [<- h.len];exact this)⟩
   obtain ⟨w',v1,v2,v3,v4⟩:=h.cls j x b' hj hb'
   rw [w1] at v1
   cases v1
   exact ysh hj hb' (zpm.2 ⟨by rw [<- v2,<- w2];exact e1,by rw [<- v3,<- w3];exact e2,by rw [<- v4,<- w4];exact e3⟩)
  have:=zyd hX hsub
  rw [List.length_map,List.length_map,yaj (p:=sameA a) (by simp [hDA]),yaj (p:=sameA a) h.len,List.filter_append,List.length_append,List.filter_cons,if_pos (zpm.2 ⟨rfl,rfl,rfl⟩)] at this
  simp at this
  omega
theorem yla (hb:Books T lg D) (h:Once T lg D A U B E) (he:lg=A++a :: A'):∃ (u:Nat) (m:Message),fst1 (wants B E a) 0 T=(u:Int) /\ T[u]?=some m /\ Once T lg D (A++[a]) (U++[u]) (B.set u true) (if a.ordered=true then upd E a.stream (u+1) else E):=by
 obtain ⟨h1,h2⟩:=ygg hb h he
 obtain ⟨u,m,hm,hf,hw⟩:=zyc h1
 rw [Nat.zero_add] at hf hw
 obtain ⟨w1,w2,w3⟩:=zpl.1 hw
 obtain ⟨s1,s2,s3⟩:=w2
 have hul:=zcn hm
 have hu:u ∉ U:=fun hin=>by rw [(h.mark u).2 hin] at w1;cases w1
 have ha:lg[A.length]?=some a:=by rw [he];simp
 refine ⟨u,m,hf,hm,by rw [List.length_set];exact h.bl,fun i=>?_,by simp [h.len],?_,fun j v b hj hb'=>?_,fun v hv w hvw how=>?_,fun j b d hj hjb hob hjd=>?_⟩
 . by_cases e:u=i
   . subst e
     rw [List.getElem?_set_self (by rw [h.bl];exact hul)];simp
   . rw [List.getElem?_set_ne e,h.mark i]
     simp [show ¬ i=u from fun h=>e h.symm]
 . rw [List.nodup_append]
   exact ⟨h.nod,by simp,fun x hx y hy=>by rw [List.mem_singleton] at hy;subst hy;exact fun e=>hu (e ▸ hx)⟩
 . rcases zda hj with hj' | ⟨e1,e2⟩
   . rw [List.getElem?_append_left (by rw [<- h.len];exact zcn hj')] at hb'
     exact h.cls j v b hj' hb'
   . rw [e1,h.len,List.getElem?_append_right (Nat.le_refl _),Nat.sub_self] at hb'
     cases hb'
     rw [e2];exact ⟨m,hm,s1,s2,s3⟩
 . rcases List.mem_append.1 hv with hv' | hv'
   . have h5:=h.low v hv' w hvw how
     split
     . rename_i c
       rw [zue]
       split
       . rename_i c2
         have:=w3 c
         rw [c2] at h5;omega
       . exact h5
     . exact h5
   . rw [List.mem_singleton] at hv'
     rw [hv',hm] at hvw
     cases hvw
     rw [if_pos (by rw [<- s2];exact how),zue,if_pos s1,hv'];omega
 . rw [List.length_append,List.length_singleton] at hj
   have h5:=h.ahead j b d (by omega) hjb hob hjd
   split
   . rename_i c
     rw [zue]
     split
     . rename_i c2
       obtain ⟨d0,hd0⟩:∃ d0,D[A.length]?=some d0:=⟨_,List.getElem?_eq_getElem (by have:=zcn ha;have:=hb.len;omega)⟩
       have h6:=h2 c d0 hd0
       have h7:=hb.turn A.length j d0 d a b (by omega) hd0 hjd ha hjb c2.symm c hob
       omega
     . exact h5
   . exact h5
end
theorem zrj (x:Step) (a:Answer):∀ (A:List Step) (az:List Answer),az[A.length]?=some a -> takes (A++[x]) az=takes A az++took x a
 | [],[],h=>by simp at h
 | [],b :: az,h=>by
  simp only [List.length_nil,List.getElem?_cons_zero,Option.some.injEq] at h
  subst h
  show took x b++takes [] az=[]++took x b
  cases az <;> simp [takes]
 | y :: A,[],h=>by simp at h
 | y :: A,b :: az,h=>by
  rw [List.cons_append,takes,takes,zrj x a A az (by simpa using h),List.append_assoc]
theorem zpn:∀ (l:List Step) (az:List Answer),(takes l az).length <= l.length
 | [],az=>by cases az <;> simp [takes]
 | x :: l,[]=>by simp [takes]
 | x :: l,a :: az=>by
  have:=zpn l az
  rw [takes,List.length_append,List.length_cons]
  unfold took
  split <;> simp <;> omega
theorem ygh {c:Config} (hw:wrgS c=0) {l:List Step} (hl:l.length <= 200):∃ D,Books (takes l (play (newL c) l).2) (play (newL c) l).1.receiver.log D:=by
 obtain ⟨H,A,D,g⟩:=ydw l (yrc hw) (by omega) (by omega)
 rw [List.nil_append] at g
 exact ⟨D,g.books⟩
end Gh
end Go.HL
namespace Go.HL
open Go.Proofs
namespace Gh
open Ser Snd Ln
set_option maxHeartbeats 8000000
set_option maxRecDepth 100000
set_option linter.unusedSimpArgs false
abbrev ansz (l:List Answer):HV:=.p (.sl 2 (l.map Answer.row))
abbrev msgs (l:List Message):HV:=.p (.sl 5 (l.map Message.row))
abbrev rowMs (l:List Message):HSlot:=.live (.row 48 5 (l.map Message.row))
theorem yal (l:List Step) (az:List Answer) (hl:az.length=l.length) (hb:l.length < 2 ^ 38):FunOK Tryz.prog 52 [stps l,ansz az] zac (msgs (takes l az)) zac:=by
 refine zao mixed Tryz.func52 (by decide) ?_
 conv=>whnf
 refine ⟨{ x:List Step × List Step // l=x.1++x.2 },fun | ⟨(A,B),_⟩=>hs 39 [(1,ansz az),(5,.own 900),(8,stps l),(9,i64 l.length),(10,i64 A.length)] [(900,rowMs (takes A az))],fun x=>x.1.2.length,⟨([],l),rfl⟩,?_,?_⟩
 . exact (hle_X [(900,none)] (by repeat' (first | exact z0 | refine z1 ?_ | refine ⟨?_,?_⟩ | ((cases az <;> rfl)) | exact z2)))
 rintro ⟨⟨A,B⟩,h⟩
 dsimp only at h
 conv=>whnf
 cases B with
 | cons x B =>
  have hz:=zbi h
  obtain ⟨a,ha⟩:∃ a,az[A.length]?=some a:=⟨_,List.getElem?_eq_getElem (by omega)⟩
  have hsn:=zrj x a A az ha
  have hlen:=zpn A az
  refine sT ?_
  refine zah h rfl ?_;conv=>whnf
  (try (refine hcut.go ?_;conv=>whnf))
  by_cases c1:x.kind=1
  case neg =>
   rw [took,if_neg (fun h=>c1 h.1),List.append_nil] at hsn
   refine zad (beq_eq_false_iff_ne.2 c1) ?_;conv=>whnf
   (try (refine hcut.go ?_;conv=>whnf))
   refine sF ?_
   exact ⟨⟨(A++[x],B),zak h⟩,(hle_X [(900,some 900)] (by repeat' (first | exact z0 | refine z1 ?_ | refine ⟨?_,?_⟩ | ((rw [hsn])) | exact z2))),by simp⟩
  refine zaf (beq_iff_eq.2 c1) ?_;conv=>whnf
  refine zaf (decide_eq_true (by rw [List.length_map];omega)) ?_;conv=>whnf
  refine zag ha rfl ?_;conv=>whnf
  by_cases c2:a.err=0
  case neg =>
   rw [took,if_neg (fun h=>c2 h.2),List.append_nil] at hsn
   refine zad (beq_eq_false_iff_ne.2 c2) ?_;conv=>whnf
   (try (refine hcut.go ?_;conv=>whnf))
   refine sF ?_
   exact ⟨⟨(A++[x],B),zak h⟩,(hle_X [(900,some 900)] (by repeat' (first | exact z0 | refine z1 ?_ | refine ⟨?_,?_⟩ | ((rw [hsn])) | exact z2))),by simp⟩
  rw [took,if_pos ⟨c1,c2⟩] at hsn
  refine zaf (beq_iff_eq.2 c2) ?_;conv=>whnf
  refine zaa (c:=(((takes A az).map Message.row).length+1) * 56 <= 140737488355328) (by rw [List.length_map];omega) ?_;conv=>whnf
  refine sF ?_
  exact ⟨⟨(A++[x],B),zak h⟩,(hle_X [(900,some 36)] (by repeat' (first | exact z0 | refine z1 ?_ | refine ⟨?_,?_⟩ | ((exact zbj (f:=Message.row) hsn rfl)) | exact z2))),by simp⟩
 | nil =>
  have hz:=zbr h
  rw [List.append_nil] at h
  subst h
  ((refine hif_F ?_;conv=>whnf);try (refine hcut.go ?_;conv=>whnf))
abbrev rowB (B:List Bool):HSlot:=.live (.row 4 1 (B.map fun b=>[pb b]))
abbrev mapI (E:List (Int × Int)):HSlot:=.live (.map 4 false (E.map entI))
theorem oncelaw (c:Config) (l:List Step) (hb:∀ x ∈ l,x.message.data.length < 2 ^ 38) (hl:l.length < 2 ^ 38):FunOK Tryz.prog 11 [c.hv,stps l] zac (hbool true) zac:=by
 refine zao mixed Tryz.func11 (by decide) ?_
 conv=>whnf
 (refine cL ?_;refine dL zxp ?_)
 have pk:=zxo c l hb
 by_cases c3:Snd.wrgS c=0
 case neg =>
  have e1:playP c l=(noL,[],Snd.wrgS c):=if_pos c3
  rw [e1] at pk
  (refine cP ?_;refine dL pk ?_)
  refine zaf (bne_iff_ne.2 c3) ?_;conv=>whnf
  rw [show (Snd.wrgS c != 0)=true from bne_iff_ne.2 c3]
  try rfl
 by_cases c2:l.length > 200
 case pos =>
  have e1:playP c l=(noL,[],5):=by rw [playP,if_neg (fun h=>h c3),if_pos c2]
  rw [e1] at pk
  (refine cP ?_;refine dL pk ?_)
  try rfl
 have e1:playP c l=((play (newL c) l).1,(play (newL c) l).2,0):=by rw [playP,if_neg (fun h=>h c3),if_neg c2]
 rw [e1] at pk
 have hpl:=ztu l (newL c)
 obtain ⟨D,hbk⟩:=ygh c3 (l:=l) (by omega)
 have hlog:=(ztx l (zty c3) (by omega) (by omega)).rcv.log
 dsimp only at pk
 generalize play (newL c) l=P at pk hpl hbk hlog
 obtain ⟨x,az⟩:=P
 dsimp only at pk hpl hbk hlog
 have pt:=yal l az hpl (by omega)
 have hTl:=zpn l az
 generalize takes l az=T at hbk hTl pt
 (refine cP ?_;refine dL pk ?_)
 refine zad (by simp [hpl]) ?_;conv=>whnf
 (try (refine hcut.go ?_;conv=>whnf))
 (refine cP ?_;refine dL pt ?_)
 have hlT:(T.map Message.row).length=T.length:=List.length_map _
 refine zaa (c:=0 <= ((T.map Message.row).length:Int) /\ ((T.map Message.row).length:Int)=((T.map Message.row).length:Int) /\ ((T.map Message.row).length:Int) * ((1:Nat):Int) <= 140737488355328) ⟨by omega,rfl,by omega⟩ ?_;conv=>whnf
 refine ⟨{ w:(List Arrival × List Arrival) × List Nat × List Bool × List (Int × Int) // x.receiver.log=w.1.1++w.1.2 /\ Once T x.receiver.log D w.1.1 w.2.1 w.2.2.1 w.2.2.2 },fun | ⟨((A,A'),U,B,E),_⟩=>hs 118 [(5,.ptr 5 0),(8,msgs T),(9,.own 900),(10,.mp 901),(45,.p (.sl 4 (x.receiver.log.map Arrival.row))),(46,i64 x.receiver.log.length),(47,i64 A.length)] [(5,lnL x),(900,rowB B),(901,mapI E)],fun w=>w.1.1.2.length,⟨(([],x.receiver.log),[],List.replicate T.length false,[]),rfl,ynn T _ D⟩,?_,?_⟩
 . exact (hle_X [(5,some 5),(900,some 41),(901,some 42)] (by repeat' (first | exact z0 | refine z1 ?_ | refine ⟨?_,?_⟩ | ((exact zal (by simp;exact .inr rfl))) | exact z2)))
 rintro ⟨⟨⟨A,A'⟩,U,B,E⟩,k1,k2⟩
 dsimp only at k1 k2
 refine zff fun Q hQ=>?_
 conv=>whnf
 cases A' with
 | nil =>
  have hz:=zbr k1
  refine sN ?_
  refine hQ _ _ ?_;conv=>whnf
  try rfl
 | cons a A' =>
 have hz:=zbi k1
 obtain ⟨u,mu,n1,n2,n3⟩:=yla hbk k2 k1
 refine sT ?_
 refine zah k1 rfl ?_;conv=>whnf
 (try (refine hcut.go ?_;conv=>whnf))
 refine ⟨{ w:List Message × List Message // T=w.1++w.2 },fun | ⟨(X,Y),_⟩=>hs 118 [(5,.ptr 5 0),(8,msgs T),(9,.own 900),(10,.mp 901),(12,.ptr 12 0),(13,i64 (fst1 (wants B E a) 0 X)),(45,.p (.sl 4 (x.receiver.log.map Arrival.row))),(46,i64 x.receiver.log.length),(47,i64 A.length),(51,msgs T),(52,i64 T.length),(53,i64 X.length)] [(5,lnL x),(12,.live (.cells 56 a.cells)),(900,rowB B),(901,mapI E)],fun w=>w.1.2.length,⟨([],T),rfl⟩,?_,?_⟩
 . exact (hle_Q [(5,some 5),(12,some 12),(900,some 900),(901,some 901)])
 rintro ⟨⟨X,Y⟩,g⟩
 dsimp only at g
 refine zff fun Q2 hQ2=>?_
 conv=>whnf
 cases Y with
 | cons m Y =>
  have gz:=zbi g
  obtain ⟨b0,hb0⟩:∃ b,B[X.length]?=some b:=⟨_,List.getElem?_eq_getElem (by rw [k2.bl];omega)⟩
  have hwt:wants B E a X.length m=(!b0 && (decide (m.stream=a.stream) && ((m.ordered == a.ordered) && (decide (m.data=a.data) && (!a.ordered || decide (lkp E a.stream <= (X.length:Int))))))):=by unfold wants;rw [hb0];rfl
  refine sT ?_
  refine zah g rfl ?_;conv=>whnf
  (try (refine hcut.go ?_;conv=>whnf))
  by_cases e0:fst1 (wants B E a) 0 X < 0
  case neg =>
   have hnx:fst1 (wants B E a) 0 (X++[m])=fst1 (wants B E a) 0 X:=by rw [zdr,if_neg (fun h=>e0 h.1)]
   refine zad (decide_eq_false e0) ?_;conv=>whnf
   (try (refine hcut.go ?_;conv=>whnf))
   refine sF ?_
   refine hQ2 _ _ ?_;conv=>whnf
   exact ⟨⟨(X++[m],Y),zak g⟩,(hle_X [(5,some 5),(12,some 12),(900,some 900),(901,some 901)] (by repeat' (first | exact z0 | refine z1 ?_ | refine ⟨?_,?_⟩ | ((rw [hnx])) | exact z2))),by simp⟩
  refine zaf (decide_eq_true e0) ?_;conv=>whnf
  refine zaa ⟨by omega,by rw [List.length_map,k2.bl];omega⟩ ?_;conv=>whnf
  refine zag (f:=fun b:Bool=>[pb b]) hb0 rfl ?_;conv=>whnf
  cases b0 with
  | true =>
   conv=>whnf
   have hnx:fst1 (wants B E a) 0 (X++[m])=fst1 (wants B E a) 0 X:=by rw [zdr,if_neg (by rw [Nat.zero_add,hwt];simp [e0])]
   (try (refine hcut.go ?_;conv=>whnf))
   refine sF ?_
   refine hQ2 _ _ ?_;conv=>whnf
   exact ⟨⟨(X++[m],Y),zak g⟩,(hle_X [(5,some 5),(12,some 12),(900,some 900),(901,some 901)] (by repeat' (first | exact z0 | refine z1 ?_ | refine ⟨?_,?_⟩ | ((rw [hnx])) | exact z2))),by simp⟩
  | false =>
  conv=>whnf
  by_cases d1:m.stream=a.stream
  case neg =>
   refine zad (beq_eq_false_iff_ne.2 d1) ?_;conv=>whnf
   have hnx:fst1 (wants B E a) 0 (X++[m])=fst1 (wants B E a) 0 X:=by rw [zdr,if_neg (by rw [Nat.zero_add,hwt];simp [d1])]
   (try (refine hcut.go ?_;conv=>whnf))
   refine sF ?_
   refine hQ2 _ _ ?_;conv=>whnf
   exact ⟨⟨(X++[m],Y),zak g⟩,(hle_X [(5,some 5),(12,some 12),(900,some 900),(901,some 901)] (by repeat' (first | exact z0 | refine z1 ?_ | refine ⟨?_,?_⟩ | ((rw [hnx])) | exact z2))),by simp⟩
  refine zaf (beq_iff_eq.2 d1) ?_;conv=>whnf
  by_cases d2:m.ordered=a.ordered
  case neg =>
   refine zad (beq_eq_false_iff_ne.2 d2) ?_;conv=>whnf
   have hnx:fst1 (wants B E a) 0 (X++[m])=fst1 (wants B E a) 0 X:=by rw [zdr,if_neg (by rw [Nat.zero_add,hwt];simp [d2])]
   (try (refine hcut.go ?_;conv=>whnf))
   refine sF ?_
   refine hQ2 _ _ ?_;conv=>whnf
   exact ⟨⟨(X++[m],Y),zak g⟩,(hle_X [(5,some 5),(12,some 12),(900,some 900),(901,some 901)] (by repeat' (first | exact z0 | refine z1 ?_ | refine ⟨?_,?_⟩ | ((rw [hnx])) | exact z2))),by simp⟩
  refine zaf (beq_iff_eq.2 d2) ?_;conv=>whnf
  refine zhq rfl ?_;conv=>whnf
  refine zhq rfl ?_;conv=>whnf
  rw [ysf]
  by_cases d3:m.data=a.data
  case neg =>
   rw [show decide (m.data=a.data)=false from decide_eq_false d3]
   conv=>whnf
   have hnx:fst1 (wants B E a) 0 (X++[m])=fst1 (wants B E a) 0 X:=by rw [zdr,if_neg (by rw [Nat.zero_add,hwt];simp [d3])]
   (try (refine hcut.go ?_;conv=>whnf))
   refine sF ?_
   refine hQ2 _ _ ?_;conv=>whnf
   exact ⟨⟨(X++[m],Y),zak g⟩,(hle_X [(5,some 5),(12,some 12),(900,some 900),(901,some 901)] (by repeat' (first | exact z0 | refine z1 ?_ | refine ⟨?_,?_⟩ | ((rw [hnx])) | exact z2))),by simp⟩
  rw [show decide (m.data=a.data)=true from decide_eq_true d3]
  conv=>whnf
  cases d4:a.ordered with
  | false =>
   conv=>whnf
   have hnx:fst1 (wants B E a) 0 (X++[m])=(X.length:Int):=by rw [zdr,if_pos ⟨e0,by rw [Nat.zero_add,hwt];simp [d1,d2,d3,d4]⟩,Nat.zero_add]
   (try (refine hcut.go ?_;conv=>whnf))
   refine sF ?_
   refine hQ2 _ _ ?_;conv=>whnf
   exact ⟨⟨(X++[m],Y),zak g⟩,(hle_X [(5,some 5),(12,some 12),(900,some 900),(901,some 901)] (by repeat' (first | exact z0 | refine z1 ?_ | refine ⟨?_,?_⟩ | ((rw [hnx])) | exact z2))),by simp⟩
  | true =>
  conv=>whnf
  have hf:∃ o,o=findV (E.map entI) (.int .i64 a.stream) /\ (o=none /\ lkp E a.stream=0 \/ o=some [pi (lkp E a.stream)]):=⟨_,rfl,zyb a.stream E⟩
  obtain ⟨o,ho,hf⟩:=hf
  refine ⟨o,ho,?_⟩
  rcases hf with ⟨rfl,hf⟩ | rfl
  case inl =>
   conv=>whnf
   have hnx:fst1 (wants B E a) 0 (X++[m])=(X.length:Int):=by rw [zdr,if_pos ⟨e0,by rw [Nat.zero_add,hwt];simp [d1,d2,d3,hf]⟩,Nat.zero_add]
   (try (refine hcut.go ?_;conv=>whnf))
   refine sF ?_
   refine hQ2 _ _ ?_;conv=>whnf
   exact ⟨⟨(X++[m],Y),zak g⟩,(hle_X [(5,some 5),(12,some 12),(900,some 900),(901,some 901)] (by repeat' (first | exact z0 | refine z1 ?_ | refine ⟨?_,?_⟩ | ((rw [hnx])) | exact z2))),by simp⟩
  case inr =>
   conv=>whnf
   by_cases d5:lkp E a.stream <= (X.length:Int)
   case pos =>
    refine zaf (decide_eq_true d5) ?_;conv=>whnf
    have hnx:fst1 (wants B E a) 0 (X++[m])=(X.length:Int):=by rw [zdr,if_pos ⟨e0,by rw [Nat.zero_add,hwt];simp [d1,d2,d3,d5]⟩,Nat.zero_add]
    (try (refine hcut.go ?_;conv=>whnf))
    refine sF ?_
    refine hQ2 _ _ ?_;conv=>whnf
    exact ⟨⟨(X++[m],Y),zak g⟩,(hle_X [(5,some 5),(12,some 12),(900,some 900),(901,some 901)] (by repeat' (first | exact z0 | refine z1 ?_ | refine ⟨?_,?_⟩ | ((rw [hnx])) | exact z2))),by simp⟩
   case neg =>
    refine zad (decide_eq_false d5) ?_;conv=>whnf
    have hnx:fst1 (wants B E a) 0 (X++[m])=fst1 (wants B E a) 0 X:=by rw [zdr,if_neg (by rw [Nat.zero_add,hwt];simp [d4,d5])]
    (try (refine hcut.go ?_;conv=>whnf))
    refine sF ?_
    refine hQ2 _ _ ?_;conv=>whnf
    exact ⟨⟨(X++[m],Y),zak g⟩,(hle_X [(5,some 5),(12,some 12),(900,some 900),(901,some 901)] (by repeat' (first | exact z0 | refine z1 ?_ | refine ⟨?_,?_⟩ | ((rw [hnx])) | exact z2))),by simp⟩
 | nil =>
 have gz:=zbr g
 rw [List.append_nil] at g
 subst g
 have hul:=zcn n2
 refine sN ?_
 refine hQ2 _ _ ?_;conv=>whnf
 rw [n1]
 conv=>whnf
 (try (refine hcut.go ?_;conv=>whnf))
 refine zaa ⟨by omega,by rw [List.length_map,k2.bl];omega⟩ ?_;conv=>whnf
 obtain ⟨bu,hbu⟩:∃ b,B[u]?=some b:=⟨_,List.getElem?_eq_getElem (by rw [k2.bl];exact hul)⟩
 refine zag (f:=fun b:Bool=>[pb b]) hbu (by rw [n1];omega) ?_;conv=>whnf
 have hut:(fst1 (wants B E a) 0 T).toNat=u:=by rw [n1];omega
 have hset:(B.map fun b=>[pb b]).set (fst1 (wants B E a) 0 T).toNat [pb true]=(B.set u true).map fun b=>[pb b]:=by rw [hut,List.map_set]
 cases d4:a.ordered with
 | false =>
  rw [d4,if_neg (by decide)] at n3
  conv=>whnf
  (try (refine hcut.go ?_;conv=>whnf))
  refine sF ?_
  refine hQ _ _ ?_;conv=>whnf
  exact ⟨⟨((A++[a],A'),U++[u],B.set u true,E),zak k1,n3⟩,(hle_X [(5,some 5),(900,some 900),(901,some 901)] (by repeat' (first | exact z0 | refine z1 ?_ | refine ⟨?_,?_⟩ | ((exact zal hset)) | exact z2))),by simp⟩
 | true =>
  rw [d4,if_pos rfl] at n3
  conv=>whnf
  refine sF ?_
  refine ⟨_,(ydx _ _ _).symm,?_⟩;conv=>whnf
  (try (refine hcut.go ?_;conv=>whnf))
  refine sF ?_
  refine hQ _ _ ?_;conv=>whnf
  exact ⟨⟨((A++[a],A'),U++[u],B.set u true,upd E a.stream (u+1)),zak k1,n3⟩,(hle_X [(5,some 5),(900,some 900),(901,some 901)] (by repeat' (first | exact z0 | refine z1 ?_ | refine ⟨?_,?_⟩ | ((exact zal hset)) | ((rw [n1])) | exact z2))),by simp⟩
end Gh
end Go.HL
