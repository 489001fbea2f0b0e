/- Walks, contracts and laws of the law's functions: part 5. No condition. -/
import Derived.Test.YticmofoeecjnhaaGreatMd
set_option linter.unusedSimpArgs false
namespace Go.HL
open Go.Proofs
namespace Snd
open Ser
set_option maxHeartbeats 4000000
set_option maxRecDepth 100000
set_option linter.unusedSimpArgs false
structure QI (c:Config) (fates:List Int) (m:Queued):Prop where
 id0:0 <= m.id
 id1:m.id < fates.length
 fate:fates[m.id.toNat]?=some 1
 st0:0 <= m.message.stream
 st1:m.message.stream < c.streams
 len1:1 <= m.message.data.length
 len2:m.message.data.length <= 60
 parts:0 <= m.parts
 sent:m.sent=m.parts * c.part
 left:m.sent < m.message.data.length
structure XI (np nf:Nat) (x:Sent):Prop where
 path0:0 <= x.path
 path1:x.path < np
 id0:0 <= x.id
 id1:x.id < nf
 spans:x.chunk.spans=[]
 skips:x.chunk.skips=[]
 data:x.chunk.data.length <= 16
def owed (q:List Queued):Int:=(q.map fun m=>61 - m.parts).sum
structure SI (N:Nat) (s:Sender):Prop where
 cfg:wrgS s.config=0
 nums:∀ (i:Nat) x,s.out[i]?=some x -> x.number=s.cum+1+i
 next:s.next=s.cum+1+s.out.length
 cum:s.config.first - 1 <= s.cum
 owes:s.next+owed s.queue <= s.config.first+61 * s.fates.length
 npaths:(s.paths.length:Int)=s.config.paths
 nhad:(s.sched.had.length:Int)=s.config.streams
 nmids:(s.mids.length:Int)=2 * s.config.streams
 waits:(s.queue.length:Int) <= s.config.waiting
 queue:∀ m ∈ s.queue,QI s.config s.fates m
 out:∀ x ∈ s.out,XI s.paths.length s.fates.length x
 flight:∀ (i:Nat) p,s.paths[i]?=some p -> p.flight=Sco.fl i s.out
 many:s.fates.length <= N
 few:N <= 2 ^ 20
theorem zck {c:Config} (h:wrgS c=0):1 <= c.streams /\ c.streams <= 4 /\ 1 <= c.paths /\ c.paths <= 2 /\ 1 <= c.part /\ c.part <= 16 /\ 40 <= c.packet /\ c.packet <= 120 /\ 1 <= c.waiting /\ c.waiting <= 12 /\ 0 <= c.first /\ c.first < 65536 /\ 1 <= (c).turns /\ (c).turns <= 5:=by
 unfold wrgS at h
 split at h
 . cases h
 . split at h
   . cases h
   . omega
theorem QI.few {c:Config} {fates:List Int} {m:Queued} (h:QI c fates m) (hp:1 <= c.part):m.parts <= 59:=by
 have h1:=h.sent
 have h2:=h.left
 have h3:=h.len2
 have h4:=h.parts
 have h5:m.parts * 1 <= m.parts * c.part:=Int.mul_le_mul_of_nonneg_left hp h4
 omega
theorem zzd {c:Config} {fates:List Int} (hp:1 <= c.part):∀ {q:List Queued},(∀ m ∈ q,QI c fates m) -> 0 <= owed q
 | [],_=>by simp [owed]
 | m :: q,h=>by
  have h1:=(h m (by simp)).few hp
  have h2:=zzd hp (q:=q) fun x hx=>h x (by simp [hx])
  simp only [owed,List.map_cons,List.sum_cons] at h2 ⊢;omega
theorem zhx (m:Queued) (q:List Queued):owed (m :: q)=61 - m.parts+owed q:=by simp [owed]
theorem ziq (a b:List Queued):owed (a++b)=owed a+owed b:=by simp [owed]
section
variable {N:Nat} {s:Sender}
theorem SI.len (h:SI N s):(s.out.length:Int) <= 61 * N:=by
 have h1:=h.next
 have h2:=h.cum
 have h3:=h.owes
 have h4:=zzd (by have:=zck h.cfg;omega) h.queue
 have h5:=h.many
 omega
theorem SI.nextle (h:SI N s):s.next <= 65536+61 * N:=by
 have h3:=h.owes
 have h4:=zzd (by have:=zck h.cfg;omega) h.queue
 have h5:=h.many
 have h6:=zck h.cfg
 omega
theorem ycd:∀ {l:List Sent},(∀ x ∈ l,x.chunk.data.length <= 16) -> Sco.total l <= 16 * l.length
 | [],_=>by simp [Sco.total]
 | x :: l,h=>by
  have h1:=h x (by simp)
  have h2:=ycd (l:=l) fun y hy=>h y (by simp [hy])
  rw [Sco.zeb,List.length_cons];omega
theorem SI.total (h:SI N s):(Sco.total s.out:Int) <= 16 * (61 * N):=by
 have h1:=ycd fun x hx=>(h.out x hx).data
 have h2:=h.len
 omega
theorem SI.fit (h:SI N s):Fit s:=by
 have h1:=h.len
 have h2:=h.few
 have h3:=h.total
 have h4:=zck h.cfg
 have h5:=h.npaths
 have h6:=h.nhad
 have h7:=h.nmids
 have h8:=h.waits
 have h9:=h.many
 exact ⟨by omega,by omega,⟨by omega,by omega⟩,by omega,by omega,by omega,fun m hm=>by have:=(h.queue m hm).len2;omega⟩
theorem SI.right (h:SI N s):Sco.Right s.out s.cum s.paths.length:=by
 have h1:=h.npaths
 have h2:=zck h.cfg
 have h3:=h.nextle
 have h4:=h.next
 have h5:=h.cum
 have h6:=h.few
 exact ⟨fun x hx=>⟨(h.out x hx).path0,(h.out x hx).path1⟩,by omega,by omega,by omega,by omega,h.nums⟩
theorem SI.pf (h:SI N s):PF 62 s:=by
 have h1:=h.len
 have h2:=h.few
 have h3:=h.total
 have h4:=zck h.cfg
 have h5:=h.npaths
 have h6:=h.nhad
 have h7:=h.nmids
 have h8:=h.waits
 have h9:=h.many
 refine ⟨⟨h.fit,by omega,fun m hm=>⟨(h.queue m hm).id0,(h.queue m hm).id1⟩,fun x hx=>⟨(h.out x hx).id0,(h.out x hx).id1⟩⟩,by omega,by omega,by omega,fun m hm=>?_,fun x hx=>?_,by omega,by omega⟩
 . have q:=h.queue m hm
   have q1:=q.st0
   have q2:=q.st1
   have q3:=q.len2
   have q4:=q.sent
   have q5:=q.parts
   have q6:0 <= m.parts * s.config.part:=Int.mul_nonneg q5 (by omega)
   refine ⟨⟨q1,by omega,by omega,by omega,fun _=>?_⟩,by omega,by omega,q.left,by omega⟩
   unfold midAt
   split <;> omega
 . have q:=h.out x hx
   exact ⟨by rw [q.spans];decide,by rw [q.skips];decide⟩
theorem SI.mono {M:Nat} (h:SI N s) (h1:N <= M) (h2:M <= 2 ^ 20):SI M s:=⟨h.cfg,h.nums,h.next,h.cum,h.owes,h.npaths,h.nhad,h.nmids,h.waits,h.queue,h.out,h.flight,Nat.le_trans h.many h1,h2⟩
end
theorem yni {c:Config} (h:wrgS c=0):SI 0 (newS c):=by
 obtain ⟨h1,h2,h3,h4,h5,h6,h7,h8,h9,h10,h11,h12,h13,h14⟩:=zck h
 refine ⟨h,fun i x hx=>?_,?_,?_,?_,?_,?_,?_,?_,fun m hm=>?_,fun x hx=>?_,fun i p hp=>?_,?_,by decide⟩
 . simp [newS] at hx
 . simp [newS]
 . show c.first - 1 <= c.first - 1;omega
 . show c.first+owed [] <= c.first+61 * (([]:List Int).length:Int);simp [owed]
 . show ((List.replicate c.paths.toNat (Paths.new c.part)).length:Int)=c.paths;simp;omega
 . show ((Sch.new c.streams).had.length:Int)=c.streams
   simp [Sch.new];omega
 . show ((List.replicate (2 * c.streams).toNat (0:Int)).length:Int)=2 * c.streams;simp;omega
 . show (([]:List Queued).length:Int) <= c.waiting;simp;omega
 . simp [newS] at hm
 . simp [newS] at hx
 . have hp:(List.replicate c.paths.toNat (Paths.new c.part))[i]?=some p:=hp
   rw [List.getElem?_replicate] at hp
   split at hp
   . cases hp;simp [Paths.new,Sco.fl,newS]
   . cases hp
 . show ([]:List Int).length <= 0;simp
theorem QI.more {c:Config} {fates:List Int} {m:Queued} (h:QI c fates m) (f:Int):QI c (fates++[f]) m :=
 ⟨h.id0,by have:=h.id1;simp;omega,by have:=h.id0;have:=h.id1;rw [List.getElem?_append_left (by omega)];exact h.fate,h.st0,h.st1,h.len1,h.len2,h.parts,h.sent,h.left⟩
theorem XI.more {np nf nf':Nat} {x:Sent} (h:XI np nf x) (hn:nf <= nf'):XI np nf' x:=⟨h.path0,h.path1,h.id0,by have:=h.id1;omega,h.spans,h.skips,h.data⟩
theorem zto {N:Nat} {s:Sender} {m:Message} (h:SI N s) (he:zdo s m=0) (hN:N+1 <= 2 ^ 20):SI (N+1) (sendS s m):=by
 unfold zdo at he
 split at he
 . cases he
 split at he
 . cases he
 split at he
 . cases he
 rename_i c1 c2 c3
 refine ⟨h.cfg,h.nums,h.next,h.cum,?_,h.npaths,h.nhad,h.nmids,?_,fun q hq=>?_,fun x hx=>(h.out x hx).more (by simp [sendS]),h.flight,?_,hN⟩
 . have h1:=h.owes
   show s.next+owed (s.queue++[⟨s.fates.length,-1,s.clock,0,0,m⟩]) <= s.config.first+61 * ((s.fates++[1]).length:Int)
   rw [ziq,zhx]
   simp only [owed,List.map_nil,List.sum_nil,List.length_append,List.length_cons,List.length_nil] at h1 ⊢
   push_cast;omega
 . show ((s.queue++[_]).length:Int) <= s.config.waiting
   simp;omega
 . rcases List.mem_append.1 hq with hq | hq
   . exact (h.queue q hq).more 1
   . rw [List.mem_singleton] at hq;subst hq
     exact ⟨by simp,by simp [sendS];omega,by simp [sendS],by dsimp only;omega,by show m.stream < s.config.streams;omega,by dsimp only;omega,by dsimp only;omega,by simp,by simp,by dsimp only;omega⟩
 . have:=h.many
   show (s.fates++[1]).length <= N+1;simp;omega
theorem yif (id:Int) (s:Sender) (m:Queued) (hm:m.parts <= 60):W (s.next+1)=s.next+1 -> (end1 id s m).next+owed ([m].filter fun m=>decide (m.id ≠ id)) <= s.next+owed [m]:=by
 intro hW
 unfold end1
 by_cases c:m.id=id
 . have e1:[m].filter (fun m=>decide (m.id ≠ id))=[]:=by simp [c]
   rw [e1]
   split
   . show W (s.next+1)+owed [] <= _
     simp only [owed,List.map_nil,List.sum_nil,List.map_cons,List.sum_cons];omega
   . simp only [owed,List.map_nil,List.sum_nil,List.map_cons,List.sum_cons];omega
 . rw [if_neg (fun h=>c h.1)]
   simp [c,owed]
theorem yce (id:Int):∀ (q:List Queued) (s:Sender),(∀ m ∈ q,m.parts <= 60) -> -1000 <= s.next -> s.next+q.length < 2 ^ 60 -> s.next=s.cum+1+s.out.length -> (∀ (i:Nat) x,s.out[i]?=some x -> x.number=s.cum+1+i) ->
 (q.foldl (end1 id) s).next=s.cum+1+(q.foldl (end1 id) s).out.length /\ (∀ (i:Nat) x,(q.foldl (end1 id) s).out[i]?=some x -> x.number=s.cum+1+i) /\ (q.foldl (end1 id) s).next+owed (q.filter fun m=>decide (m.id ≠ id)) <= s.next+owed q
 | [],s,_,_,_,h1,h2=>⟨h1,h2,Int.le_refl _⟩
 | m :: q,s,hq,h0,hb,h1,h2=>by
  have hW:W (s.next+1)=s.next+1:=by simp only [List.length_cons] at hb;exact W_fit (by omega) (by omega)
  have hk:=zqp id s m
  have hcum:(end1 id s m).cum=s.cum:=by rw [hk]
  have ho:=yif id s m (hq m (by simp)) hW
  have h1':(end1 id s m).next=(end1 id s m).cum+1+(end1 id s m).out.length /\ s.next <= (end1 id s m).next /\ (end1 id s m).next <= s.next+1:=by
   unfold end1
   split
   . dsimp only;rw [hW];simp;omega
   . exact ⟨h1,by omega,by omega⟩
  have h2':∀ (i:Nat) x,(end1 id s m).out[i]?=some x -> x.number=(end1 id s m).cum+1+i:=by
   rw [hcum]
   unfold end1
   split
   . intro i x hx
     have hx:(s.out++[endOf s.next m])[i]?=some x:=hx
     rcases Nat.lt_or_ge i s.out.length with hi | hi
     . rw [List.getElem?_append_left hi] at hx;exact h2 i x hx
     . rw [List.getElem?_append_right hi] at hx
       have:i - s.out.length=0:=by
        rcases Nat.eq_zero_or_pos (i - s.out.length) with h | h
        . exact h
        . rw [List.getElem?_eq_none (by simp;omega)] at hx;cases hx
       rw [this] at hx
       cases hx
       show s.next=_
       omega
   . exact h2
  obtain ⟨r1,r2,r3⟩:=yce id q (end1 id s m) (fun x hx=>hq x (by simp [hx])) (by omega) (by simp only [List.length_cons] at hb;push_cast at hb;omega) h1'.1 h2'
  rw [List.foldl_cons]
  rw [hcum] at r1 r2
  refine ⟨r1,r2,?_⟩
  have e1:(m :: q).filter (fun m=>decide (m.id ≠ id))=[m].filter (fun m=>decide (m.id ≠ id))++q.filter fun m=>decide (m.id ≠ id):=by rw [<- List.filter_append];rfl
  rw [e1,ziq,zhx]
  simp only [owed,List.map_cons,List.map_nil,List.sum_cons,List.sum_nil] at ho r3 ⊢
  omega
theorem yig {np nf:Nat} (id:Int) (hnp:0 < np) (hid:0 <= id /\ id < nf):∀ (q:List Queued) (s:Sender),(∀ x ∈ s.out,XI np nf x) -> ∀ x ∈ (q.foldl (end1 id) s).out,XI np nf x
 | [],s,h,x,hx=>h x hx
 | m :: q,s,h,x,hx=>by
  refine yig id hnp hid q (end1 id s m) (fun y hy=>?_) x hx
  unfold end1 at hy
  split at hy
  . rename_i c
    rcases List.mem_append.1 hy with hy | hy
    . exact h y hy
    . rw [List.mem_singleton] at hy;subst hy
      exact ⟨Int.le_refl _,by show (0:Int) < np;omega,by show 0 <= m.id;omega,by show m.id < nf;omega,rfl,rfl,by simp [endOf]⟩
  . exact h y hy
theorem zqt {s:Sender} {i:Nat} {p:Path} (h:(flights s).paths[i]?=some p):p.flight=Sco.fl i s.out:=by
 have h:(s.paths.mapIdx fun i p=>flP s.out i p)[i]?=some p:=h
 rw [List.getElem?_mapIdx] at h
 cases hp:s.paths[i]? with
 | none=>rw [hp] at h;cases h
 | some q=>rw [hp] at h;cases h;rfl
theorem zmz (s:Sender) (id:Nat):(giveS s id).out=(s.queue.foldl (end1 id) { s with fates:=s.fates.set id 3 }).out.map (Sco.give id):=rfl
theorem zwg (s:Sender) (id:Nat):(giveS s id).next=(s.queue.foldl (end1 id) { s with fates:=s.fates.set id 3 }).next:=rfl
theorem zlk (s:Sender) (id:Nat):(giveS s id).queue=s.queue.filter fun m=>decide (m.id ≠ (id:Int)):=rfl
theorem zll (s:Sender) (id:Nat):(giveS s id).fates=s.fates.set id 3:=by
 show (s.queue.foldl (end1 id) { s with fates:=s.fates.set id 3 }).fates=_
 rw [zim]
theorem zze {s:Sender} {id:Nat} {i:Nat} {p:Path} (h:(giveS s id).paths[i]?=some p):p.flight=Sco.fl i (giveS s id).out:=by
 unfold giveS at h ⊢
 dsimp only at h ⊢
 have:=zqt h
 exact this
theorem zzf {N:Nat} {s:Sender} (h:SI N s) {id:Nat} (hid:id < s.fates.length):SI N (giveS s id):=by
 obtain ⟨r,-,-,-⟩:=zgs s id
 have hw:=zck h.cfg
 have hl:=h.nextle
 have hw2:=h.waits
 have hf:=h.few
 have hc:=h.cum
 have hn:=h.next
 obtain ⟨e1,e2,e3⟩:=yce id s.queue { s with fates:=s.fates.set id 3 } (fun m hm=>by have:=(h.queue m hm).few (by omega);omega) (by dsimp only;omega) (by dsimp only;omega) h.next h.nums
 refine ⟨by rw [r.config];exact h.cfg,fun i x hx=>?_,?_,by rw [r.config,r.cum];exact h.cum,?_,by rw [r.paths,r.config];exact h.npaths,by rw [r.had,r.config];exact h.nhad,by rw [r.mids,r.config];exact h.nmids,?_,fun m hm=>?_,fun x hx=>?_,fun i p hp=>?_,by rw [r.fates];exact h.many,h.few⟩
 . rw [zmz,List.getElem?_map] at hx
   cases hy:(s.queue.foldl (end1 id) { s with fates:=s.fates.set id 3 }).out[i]? with
   | none=>rw [hy] at hx;cases hx
   | some y =>
    rw [hy] at hx
    cases hx
    rw [r.cum,show (Sco.give id y).number=y.number by unfold Sco.give;split <;> rfl]
    exact e2 i y hy
 . rw [zwg,zmz,r.cum,List.length_map];exact e1
 . rw [zwg,zlk,r.config,r.fates]
   have:=h.owes
   dsimp only at e3
   omega
 . rw [zlk,r.config]
   have:=List.length_filter_le (fun m:Queued=>decide (m.id ≠ (id:Int))) s.queue
   omega
 . rw [zlk] at hm
   obtain ⟨hm1,hm2⟩:=List.mem_filter.1 hm
   have hm2:m.id ≠ id:=of_decide_eq_true hm2
   have q:=h.queue m hm1
   have q0:=q.id0
   rw [r.config,zll]
   exact ⟨q.id0,by rw [List.length_set];exact q.id1,by rw [List.getElem?_set_ne (by omega)];exact q.fate,q.st0,q.st1,q.len1,q.len2,q.parts,q.sent,q.left⟩
 . rw [zmz] at hx
   obtain ⟨y,hy,rfl⟩:=List.mem_map.1 hx
   have hp:=h.npaths
   have:=yig (np:=s.paths.length) (nf:=s.fates.length) id (by omega) ⟨by omega,by omega⟩ s.queue { s with fates:=s.fates.set id 3 } h.out y hy
   rw [r.paths,r.fates]
   unfold Sco.give
   split
   . exact ⟨this.path0,this.path1,this.id0,this.id1,this.spans,this.skips,this.data⟩
   . exact this
 . exact zze hp
theorem yih {N:Nat} {s:Sender} (h:SI N s) {m:Queued} (hm:0 <= m.id /\ m.id < s.fates.length):SI N (expQ s m) /\ (expQ s m).fates.length=s.fates.length:=by
 unfold expQ
 split
 . obtain ⟨k,hk⟩:∃ k:Nat,m.id=k:=⟨m.id.toNat,by omega⟩
   rw [hk];exact ⟨zzf h (by omega),by rw [zll,List.length_set]⟩
 . exact ⟨h,rfl⟩
theorem yii {N:Nat} {s:Sender} (h:SI N s) {m:Sent} (hm:0 <= m.id /\ m.id < s.fates.length):SI N (expX s m) /\ (expX s m).fates.length=s.fates.length:=by
 unfold expX
 split
 . obtain ⟨k,hk⟩:∃ k:Nat,m.id=k:=⟨m.id.toNat,by omega⟩
   rw [hk];exact ⟨zzf h (by omega),by rw [zll,List.length_set]⟩
 . exact ⟨h,rfl⟩
theorem ztp {N:Nat}:∀ (q:List Queued) (s:Sender),SI N s -> (∀ m ∈ q,0 <= m.id /\ m.id < s.fates.length) -> SI N (q.foldl expQ s) /\ (q.foldl expQ s).fates.length=s.fates.length
 | [],s,h,_=>⟨h,rfl⟩
 | m :: q,s,h,hq=>by
  obtain ⟨a,b⟩:=yih h (hq m (by simp))
  obtain ⟨c,d⟩:=ztp q (expQ s m) a fun x hx=>by rw [b];exact hq x (by simp [hx])
  exact ⟨c,d.trans b⟩
theorem ycf {N:Nat}:∀ (q:List Sent) (s:Sender),SI N s -> (∀ m ∈ q,0 <= m.id /\ m.id < s.fates.length) -> SI N (q.foldl expX s) /\ (q.foldl expX s).fates.length=s.fates.length
 | [],s,h,_=>⟨h,rfl⟩
 | m :: q,s,h,hq=>by
  obtain ⟨a,b⟩:=yii h (hq m (by simp))
  obtain ⟨c,d⟩:=ycf q (expX s m) a fun x hx=>by rw [b];exact hq x (by simp [hx])
  exact ⟨c,d.trans b⟩
theorem zov {N:Nat} {s:Sender} (h:SI N s):SI N (expire s) /\ (expire s).fates.length=s.fates.length:=by
 obtain ⟨a,b⟩:=ztp s.queue s h fun m hm=>⟨(h.queue m hm).id0,(h.queue m hm).id1⟩
 obtain ⟨c,d⟩:=ycf (s.queue.foldl expQ s).out _ a fun x hx=>⟨(a.out x hx).id0,(a.out x hx).id1⟩
 exact ⟨c,d.trans b⟩
end Snd
end Go.HL
namespace Go.HL
open Go.Proofs
namespace Snd
open Ser
set_option maxHeartbeats 4000000
set_option maxRecDepth 100000
set_option linter.unusedSimpArgs false
theorem zdn {α:Type} (l:List α) (k:Nat) (f:α -> α):(setAt l k f).length=l.length:=by
 unfold setAt;split <;> simp
theorem zow {α:Type} {l:List α} {k:Nat} {f:α -> α} {i:Nat} {y:α} (h:(setAt l k f)[i]?=some y):(i ≠ k /\ l[i]?=some y) \/ (i=k /\ ∃ x,l[k]?=some x /\ y=f x):=by
 unfold setAt at h
 split at h
 . rename_i hn
   by_cases e:i=k
   . subst e;rw [hn] at h;cases h
   . exact .inl ⟨e,h⟩
 . rename_i x hx
   by_cases e:i=k
   . subst e
     have hk:=(List.getElem?_eq_some_iff.1 hx).1
     rw [List.getElem?_set_self hk] at h
     cases h
     exact .inr ⟨rfl,x,hx,rfl⟩
   . rw [List.getElem?_set_ne (fun h=>e h.symm)] at h;exact .inl ⟨e,h⟩
theorem zlm (p:Int) (x:Sent) (l:List Sent):Sco.fl p (x :: l)=Sco.fl p [x]+Sco.fl p l:=by
 rw [show x :: l=[x]++l from rfl,Sco.ybn]
theorem ynj (p:Int):∀ {l:List Sent} {i:Nat} {x:Sent},l[i]?=some x -> ∀ y,Sco.fl p (l.set i y)+Sco.fl p [x]=Sco.fl p l+Sco.fl p [y]
 | [],i,x,h,y=>by simp at h
 | z :: l,0,x,h,y=>by
  simp only [List.getElem?_cons_zero,Option.some.injEq] at h
  subst h
  rw [List.set_cons_zero,zlm,zlm p z l];omega
 | z :: l,i+1,x,h,y=>by
  simp only [List.getElem?_cons_succ] at h
  have:=ynj p h y
  rw [List.set_cons_succ,zlm,zlm p z l];omega
section
variable {N:Nat} {s:Sender}
theorem SI.side (h:SI N s) {ps:List Path} {k:Int} {r:Int} {f:Bool} {z:Int} (hl:ps.length=s.paths.length) (hf:∀ (i:Nat) p,ps[i]?=some p -> p.flight=Sco.fl i s.out) :
 SI N { s with paths:=ps,clock:=k,room:=r,forward:=f,recover:=z } :=
 ⟨h.cfg,h.nums,h.next,h.cum,h.owes,by show (ps.length:Int)=_;rw [hl];exact h.npaths,h.nhad,h.nmids,h.waits,h.queue,fun x hx=>by show XI ps.length _ x;rw [hl];exact h.out x hx,hf,h.many,h.few⟩
theorem choose_lt' (h:SI N s):choose s < s.paths.length:=(zcc h.pf.some).2
theorem zfm {o:List (List Chunk)} (h:SI N s):SI N (forward ⟨s,o⟩).s:=by
 unfold forward
 split
 . exact h
 . refine h.side (zdn _ _ _) fun i p hp=>?_
   rcases zow hp with ⟨-,hp⟩ | ⟨rfl,q,hq,rfl⟩
   . exact h.flight i p hp
   . rw [<- h.flight _ q hq]
     unfold alarm;split <;> rfl
theorem yij {p:Pump} (h:SI N p.s) {i path:Nat} {x:Sent} (hx:p.s.out[i]?=some x) (hst:x.state ≠ 1) (hp:path < p.s.paths.length):SI N (fly p i path).s:=by
 obtain ⟨s,o⟩:=p
 dsimp only at h hx hp
 have hxm:=List.mem_of_getElem? hx
 have hxi:=h.out x hxm
 have hil:=(List.getElem?_eq_some_iff.1 hx).1
 have hw:=zck h.cfg
 have hnp:=h.npaths
 have htot:=h.total
 have hfew:=h.few
 have h0:∀ q:Int,Sco.fl q [x]=0:=fun q=>by rw [Sco.zoi,if_neg (fun h=>hst h.1)]
 unfold fly
 simp only [hx]
 refine ⟨h.cfg,fun j y hy=>?_,?_,h.cum,h.owes,?_,h.nhad,h.nmids,h.waits,h.queue,fun y hy=>?_,fun j q hq=>?_,h.many,h.few⟩
 . have hy:(s.out.set i (flyX x path))[j]?=some y:=hy
   by_cases e:i=j
   . subst e
     rw [List.getElem?_set_self hil] at hy
     cases hy
     exact h.nums i x hx
   . rw [List.getElem?_set_ne e] at hy;exact h.nums j y hy
 . show s.next=s.cum+1+((s.out.set i _).length:Int)
   rw [List.length_set];exact h.next
 . show ((setAt s.paths path _).length:Int)=_
   rw [zdn];exact h.npaths
 . have hy:y ∈ s.out.set i (flyX x path):=hy
   show XI (setAt s.paths path _).length _ y
   rw [zdn]
   rcases List.mem_or_eq_of_mem_set hy with hy | rfl
   . exact h.out y hy
   . exact ⟨by show (0:Int) <= path;omega,by show (path:Int) < s.paths.length;omega,hxi.id0,hxi.id1,hxi.spans,hxi.skips,hxi.data⟩
 . show q.flight=(Sco.fl j (s.out.set i (flyX x path)):Nat)
   have e1:=ynj (j:Int) hx (flyX x path)
   rw [h0] at e1
   have e2:Sco.fl (j:Int) [flyX x path]=if path=j then x.chunk.data.length else 0:=by
    rw [Sco.zoi]
    by_cases e:path=j
    . rw [if_pos e,if_pos ⟨rfl,by show (path:Int)=j;omega⟩];rfl
    . rw [if_neg e,if_neg (by rintro ⟨-,h⟩;have h:(path:Int)=j:=h;omega)]
   rcases zow hq with ⟨ne,hq⟩ | ⟨rfl,w,hw2,rfl⟩
   . rw [h.flight j q hq]
     rw [if_neg (fun h=>ne h.symm)] at e2
     omega
   . rw [if_pos rfl] at e2
     have e3:=h.flight j w hw2
     have e4:=Sco.fl_le (j:Int) s.out
     have e5:=hxi.data
     show W (w.flight+x.chunk.data.length)=_
     rw [e3,W_fit (by omega) (by omega)]
     omega
theorem zkj {p:Pump} (h:SI N p.s) {path:Nat} (hp:path < p.s.paths.length) (i:Nat):SI N (zbx path p i).s /\ (zbx path p i).s.paths.length=p.s.paths.length:=by
 unfold zbx
 split
 . exact ⟨h,rfl⟩
 . rename_i x hx
   split
   . rename_i c
     refine ⟨yij h hx (by rw [c.1];decide) hp,?_⟩
     unfold fly
     simp only [hx]
     exact zdn _ _ _
   . exact ⟨h,rfl⟩
theorem zwh {path:Nat}:∀ (L:List Nat) {p:Pump},SI N p.s -> path < p.s.paths.length -> SI N (L.foldl (zbx path) p).s
 | [],_,h,_=>h
 | i :: L,p,h,hp=>by
  obtain ⟨a,b⟩:=zkj h hp i
  exact zwh L a (by rw [b];exact hp)
theorem zna {p:Pump} (h:SI N p.s):SI N (again p).s:=zwh _ h (choose_lt' h)
theorem yly {q:List Queued} {k:Nat} {m y:Queued} (h:q[k]?=some m):owed (q.set k y)=owed q+m.parts - y.parts:=by
 obtain ⟨a,b,rfl,rfl⟩:∃ a b,q=a++m :: b /\ a.length=k:=⟨q.take k,q.drop (k+1),by
  have hk:=(List.getElem?_eq_some_iff.1 h)
  obtain ⟨hk,e⟩:=hk
  rw [<- e,List.getElem_cons_drop,List.take_append_drop],by have:=(List.getElem?_eq_some_iff.1 h).1;simp;omega⟩
 rw [List.set_append_right _ _ (Nat.le_refl _),Nat.sub_self,List.set_cons_zero,ziq,ziq,zhx,zhx];omega
theorem yev {q:List Queued} {k:Nat} {m:Queued} (h:q[k]?=some m):owed (q.eraseIdx k)=owed q+m.parts - 61:=by
 obtain ⟨a,b,rfl,rfl⟩:∃ a b,q=a++m :: b /\ a.length=k:=⟨q.take k,q.drop (k+1),by
  have hk:=(List.getElem?_eq_some_iff.1 h)
  obtain ⟨hk,e⟩:=hk
  rw [<- e,List.getElem_cons_drop,List.take_append_drop],by have:=(List.getElem?_eq_some_iff.1 h).1;simp;omega⟩
 rw [List.eraseIdx_append_of_length_le (Nat.le_refl _),Nat.sub_self,List.eraseIdx_cons_zero,ziq,ziq,zhx];omega
theorem yew (s:Sender) (m:Queued):(zcj s m).length=s.mids.length:=by
 unfold zcj;split
 . exact zdn _ _ _
 . rfl
theorem yik (sc:Sched) (m:Queued) (n:Int) (o:Bool):(Sch.had sc m n o).had.length=sc.had.length:=by
 unfold Sch.had
 dsimp only
 split <;> simp
def cutS (s:Sender) (k:Nat) (m:Queued):Sender :=
 { s with mids:=zcj s m,sched:=Sch.had s.sched { m with mid:=midOf s m } (many s m) (decide (m.sent+many s m=m.message.data.length)),out:=s.out++[⟨s.next,m.id,0,0,0,0,m.came,m.message.life,m.message.tries,cut s m (many s m)⟩],next:=W (s.next+1),queue:=if decide (m.sent+many s m=m.message.data.length) then s.queue.eraseIdx k else s.queue.set k { m with mid:=midOf s m,sent:=m.sent+many s m,parts:=W (m.parts+1) } }
theorem zdy (s:Sender) (o:List (List Chunk)) (k:Nat) (m:Queued):next1 ⟨s,o⟩ k m (many s m)=fly ⟨cutS s k m,o⟩ s.out.length (choose s):=rfl
theorem yil (h:SI N s) {k:Nat} {m:Queued} (hm:s.queue[k]?=some m):SI N (cutS s k m):=by
 have hw:=zck h.cfg
 have q:=h.queue m (List.mem_of_getElem? hm)
 have hfew:=q.few (by omega)
 have hN:=h.few
 have hnl:=h.nextle
 have hcum:=h.cum
 have hnx:=h.next
 have hp:=h.npaths
 have q1:=q.parts
 have q2:=q.sent
 have q3:=q.left
 have q4:=q.len2
 have q5:0 <= m.parts * s.config.part:=Int.mul_nonneg q1 (by omega)
 obtain ⟨n1,n2,n3⟩:=zli (s:=s) (m:=m) (by omega) (by omega) (by omega) q3 (by omega)
 have n4:many s m <= s.config.part:=by unfold many;split <;> omega
 have hW:W (s.next+1)=s.next+1:=W_fit (by omega) (by omega)
 have hWp:W (m.parts+1)=m.parts+1:=W_fit (by omega) (by omega)
 refine ⟨h.cfg,fun j y hy=>?_,?_,h.cum,?_,h.npaths,?_,?_,?_,fun y hy=>?_,fun y hy=>?_,fun j p hp=>?_,h.many,h.few⟩
 . have hy:(s.out++[_])[j]?=some y:=hy
   rcases Nat.lt_or_ge j s.out.length with hj | hj
   . rw [List.getElem?_append_left hj] at hy;exact h.nums j y hy
   . rw [List.getElem?_append_right hj] at hy
     have e:j - s.out.length=0:=by
      rcases Nat.eq_zero_or_pos (j - s.out.length) with h | h
      . exact h
      . rw [List.getElem?_eq_none (by simp;omega)] at hy;cases hy
     rw [e] at hy
     cases hy
     show s.next=s.cum+1+j
     omega
 . show W (s.next+1)=s.cum+1+((s.out++[_]).length:Int)
   rw [hW,List.length_append,List.length_singleton];push_cast;omega
 . have:=h.owes
   show W (s.next+1)+owed (if decide (m.sent+many s m=m.message.data.length) then s.queue.eraseIdx k else s.queue.set k { m with mid:=midOf s m,sent:=m.sent+many s m,parts:=W (m.parts+1) }) <= s.config.first+61 * (s.fates.length:Int)
   rw [hW]
   split
   . rw [yev hm];omega
   . rw [yly hm];dsimp only;rw [hWp];omega
 . show ((Sch.had s.sched _ _ _).had.length:Int)=_
   rw [yik];exact h.nhad
 . show ((zcj s m).length:Int)=_
   rw [yew];exact h.nmids
 . show ((if decide (m.sent+many s m=m.message.data.length) then s.queue.eraseIdx k else s.queue.set k { m with mid:=midOf s m,sent:=m.sent+many s m,parts:=W (m.parts+1) }).length:Int) <= s.config.waiting
   have:=h.waits
   split
   . rw [List.length_eraseIdx];split <;> omega
   . rw [List.length_set];exact this
 . have hy:y ∈ (if decide (m.sent+many s m=m.message.data.length) then s.queue.eraseIdx k else s.queue.set k { m with mid:=midOf s m,sent:=m.sent+many s m,parts:=W (m.parts+1) }):=hy
   show QI s.config s.fates y
   split at hy
   . exact h.queue y (List.mem_of_mem_eraseIdx hy)
   . rename_i c
     have c:m.sent+many s m ≠ m.message.data.length:=by simpa using c
     rcases List.mem_or_eq_of_mem_set hy with hy | rfl
     . exact h.queue y hy
     . have e:many s m=s.config.part:=by
        unfold many at c ⊢
        split at c
        . omega
        . rename_i c2;rw [if_neg c2]
       refine ⟨q.id0,q.id1,q.fate,q.st0,q.st1,q.len1,q.len2,?_,?_,?_⟩
       . show 0 <= W (m.parts+1);omega
       . show m.sent+many s m=W (m.parts+1) * s.config.part
         rw [hWp,e,q2,Int.add_mul,Int.one_mul]
       . show m.sent+many s m < m.message.data.length;omega
 . have hy:y ∈ s.out++[_]:=hy
   rcases List.mem_append.1 hy with hy | hy
   . exact h.out y hy
   . rw [List.mem_singleton] at hy;subst hy
     refine ⟨Int.le_refl _,by show (0:Int) < s.paths.length;omega,q.id0,q.id1,rfl,rfl,?_⟩
     show ((m.message.data.drop m.sent.toNat).take (many s m).toNat).length <= 16
     rw [List.length_take];omega
 . show p.flight=(Sco.fl j (s.out++[_]):Nat)
   rw [Sco.ybn,h.flight j p hp,Sco.zoi,if_neg (by rintro ⟨h,-⟩;cases h)];rfl
theorem zox {p q:Pump} (h:SI N p.s) (hq:next p=some q):SI N q.s:=by
 obtain ⟨s,o⟩:=p
 unfold next at hq
 dsimp only at hq h
 split at hq
 . cases hq
 rename_i c
 cases hm:s.queue[(zcu s).toNat]? with
 | none=>rw [hm] at hq;cases hq
 | some m =>
  rw [hm] at hq
  dsimp only at hq
  split at hq
  . cases hq
  . cases hq
    rw [zdy]
    have h2:=yil h hm
    exact yij (p:=⟨cutS s (zcu s).toNat m,o⟩) h2 (x:=⟨s.next,m.id,0,0,0,0,m.came,m.message.life,m.message.tries,cut s m (many s m)⟩) (by show (s.out++[_])[s.out.length]?=_;simp) (by intro h;cases h) (choose_lt' h)
theorem ycg:∀ (n:Nat) {p:Pump},SI N p.s -> SI N (nexts n p).s
 | 0,_,h=>h
 | n+1,p,h=>by
  unfold nexts
  split
  . exact h
  . rename_i q hq;exact ycg n (zox h hq)
theorem ylz (h:SI N s):SI N (woken s):=by
 refine h.side (by simp) fun i p hp=>?_
 rw [List.getElem?_map] at hp
 cases hq:s.paths[i]? with
 | none=>rw [hq] at hp;cases hp
 | some q =>
  rw [hq] at hp
  cases hp
  rw [<- h.flight i q hq]
  unfold wake
  split
  . rfl
  . split <;> rfl
theorem yim (h:SI N s):SI N (pump s).1:=ylz (ycg 61 (zna (zfm (zov h).1)))
theorem zoy {n:Int}:∀ {l:List Sent} {cum:Int},(∀ (i:Nat) x,l[i]?=some x -> x.number=cum+1+i) -> cum <= n -> l.filter (fun x=>decide (x.number > n))=l.drop (n - cum).toNat
 | [],_,_,_=>by simp
 | x :: l,cum,h,hn=>by
  have h0:=h 0 x rfl
  have h1:∀ (i:Nat) y,l[i]?=some y -> y.number=cum+1+1+i:=fun i y hy=>by
   have:=h (i+1) y (by rw [List.getElem?_cons_succ];exact hy)
   push_cast at this;omega
  by_cases c:cum=n
  . subst c
    have:∀ y ∈ x :: l,y.number > cum:=fun y hy=>by
     obtain ⟨i,hi⟩:=List.getElem?_of_mem hy
     have:=h i y hi;omega
    rw [List.filter_eq_self.2 fun y hy=>decide_eq_true (this y hy)];simp
  . rw [List.filter_cons,if_neg (by simp at h0 ⊢;omega),zoy h1 (by omega)]
    have:(n - cum).toNat=(n - (cum+1)).toNat+1:=by omega
    rw [this,List.drop_succ_cons]
theorem yot {l:List Sent} {cum:Int} {c:Chunk} {np:Int} (h:∀ (i:Nat) x,l[i]?=some x -> x.number=cum+1+i) (hk:¬ (near cum c.tag < cum \/ near cum c.tag > cum+l.length)) :
 ∃ g:Sent -> Sent,(∀ x,(g x).number=x.number /\ (g x).path=x.path /\ (g x).id=x.id /\ (g x).chunk=x.chunk) /\ (Sco.sack l cum c np).1=(l.drop (near cum c.tag - cum).toNat).map g:=by
 refine ⟨fun x=>Sco.age (Sco.zlz c (near cum c.tag) l) (Sco.turn c (near cum c.tag) x),fun x=>?_,?_⟩
 . have e1:∀ (k:Int) y,(Sco.age k y).number=y.number /\ (Sco.age k y).path=y.path /\ (Sco.age k y).id=y.id /\ (Sco.age k y).chunk=y.chunk:=fun k y=>by unfold Sco.age;(repeat' split) <;> exact ⟨rfl,rfl,rfl,rfl⟩
   have e2:∀ k y,(Sco.turn c k y).number=y.number /\ (Sco.turn c k y).path=y.path /\ (Sco.turn c k y).id=y.id /\ (Sco.turn c k y).chunk=y.chunk:=fun k y=>by unfold Sco.turn;split <;> exact ⟨rfl,rfl,rfl,rfl⟩
   obtain ⟨a1,a2,a3,a4⟩:=e1 (Sco.zlz c (near cum c.tag) l) (Sco.turn c (near cum c.tag) x)
   obtain ⟨b1,b2,b3,b4⟩:=e2 (near cum c.tag) x
   exact ⟨a1.trans b1,a2.trans b2,a3.trans b3,a4.trans b4⟩
 . rw [Sco.sack,if_neg hk]
   dsimp only
   rw [Sco.left,zoy h (by omega),List.map_map];rfl
theorem zwi (h:SI N s) {c:Chunk} (hk:¬ (near s.cum c.tag < s.cum \/ near s.cum c.tag > s.cum+s.out.length)):SI N (zki s c (Sco.sack s.out s.cum c s.paths.length)):=by
 obtain ⟨g,hg,e⟩:=yot (np:=s.paths.length) h.nums hk
 have e2:(Sco.sack s.out s.cum c s.paths.length).2.1=near s.cum c.tag:=by rw [Sco.sack,if_neg hk]
 have hl:(zki s c (Sco.sack s.out s.cum c s.paths.length)).paths.length=s.paths.length:=by
  show (List.mapIdx _ (List.mapIdx _ _)).length=_
  simp
 have ho:(zki s c (Sco.sack s.out s.cum c s.paths.length)).out=(s.out.drop (near s.cum c.tag - s.cum).toNat).map g:=e
 have hc:(zki s c (Sco.sack s.out s.cum c s.paths.length)).cum=near s.cum c.tag:=e2
 have hn:=h.next
 have hcu:=h.cum
 refine ⟨h.cfg,fun i x hx=>?_,?_,?_,h.owes,by rw [hl];exact h.npaths,h.nhad,h.nmids,h.waits,h.queue,fun x hx=>?_,fun i p hp=>?_,h.many,h.few⟩
 case refine_5=>have:=zqt (s:={ s with out:=(Sco.sack s.out s.cum c s.paths.length).1,cum:=(Sco.sack s.out s.cum c s.paths.length).2.1,room:=c.room,paths:=comeP s.paths s.config.part (decide ((Sco.sack s.out s.cum c s.paths.length).2.1 > s.cum)) (Sco.sack s.out s.cum c s.paths.length).2.2.1 }) hp;exact this
 . rw [ho,List.getElem?_map,List.getElem?_drop] at hx
   cases hy:s.out[(near s.cum c.tag - s.cum).toNat+i]? with
   | none=>rw [hy] at hx;cases hx
   | some y =>
    rw [hy] at hx
    cases hx
    rw [(hg y).1,h.nums _ y hy,hc];push_cast;omega
 . rw [ho,hc,List.length_map,List.length_drop]
   show s.next=_
   omega
 . rw [hc];show s.config.first - 1 <= _;omega
 . rw [ho] at hx
   obtain ⟨y,hy,rfl⟩:=List.mem_map.1 hx
   have q:=h.out y (List.mem_of_mem_drop hy)
   obtain ⟨g1,g2,g3,g4⟩:=hg y
   rw [hl]
   exact ⟨by rw [g2];exact q.path0,by rw [g2];exact q.path1,by rw [g3];exact q.id0,by rw [g3];exact q.id1,by rw [g4];exact q.spans,by rw [g4];exact q.skips,by rw [g4];exact q.data⟩
theorem zwj (h:SI N s) {part:Int} {L:List Int}:SI N (zhg part s L):=by
 unfold zhg
 split
 . exact h
 . split
   . refine h.side (zdn _ _ _) fun i p hp=>?_
     rcases zow hp with ⟨-,hp⟩ | ⟨rfl,q,hq,rfl⟩
     . exact h.flight i p hp
     . rw [<- h.flight _ q hq];rfl
   . exact h
theorem zwk (h:SI N s) {b:Bool}:SI N (zel b s):=by
 unfold zel
 split
 . exact h.side rfl h.flight
 . exact h
theorem yin (h:SI N s):SI N (settle s):=by
 have hl:(settle s).fates.length=s.fates.length:=by show (List.mapIdx _ _).length=_;simp
 refine ⟨h.cfg,h.nums,h.next,h.cum,by rw [hl];exact h.owes,h.npaths,h.nhad,h.nmids,h.waits,fun m hm=>?_,fun x hx=>by rw [hl];exact h.out x hx,h.flight,by rw [hl];exact h.many,h.few⟩
 have hm:m ∈ s.queue:=hm
 have q:=h.queue m hm
 have q0:=q.id0
 refine ⟨q.id0,by rw [hl];exact q.id1,?_,q.st0,q.st1,q.len1,q.len2,q.parts,q.sent,q.left⟩
 show (s.fates.mapIdx fun id f=>settled s id f)[m.id.toNat]?=some 1
 rw [List.getElem?_mapIdx,q.fate]
 show some (settled s m.id.toNat 1)=some 1
 rw [settled,if_neg]
 rintro ⟨-,h2,-⟩
 rw [List.any_eq_false] at h2
 exact h2 m hm (decide_eq_true (by omega))
theorem zzg (h:SI N s) (c:Chunk):SI N (hear s c):=by
 unfold hear
 split
 . exact h
 split
 . exact h
 . rename_i c1 c2
   rw [zmy]
   exact yin (zwk (zwj (zwi h c2)))
theorem yio (i j:Nat):∀ l:List Sent,Sco.fl j (l.map (Sco.late i))=if i=j then 0 else Sco.fl j l
 | []=>by simp [Sco.fl]
 | x :: l=>by
  rw [List.map_cons,zlm,yio i j l,zlm (j:Int) x l,Sco.zoi,Sco.zoi]
  unfold Sco.late
  by_cases c:x.state=1 /\ x.path=i
  . rw [if_pos c,if_neg (by rintro ⟨h,-⟩;cases h)]
    by_cases e:i=j
    . rw [if_pos e,if_pos e]
    . rw [if_neg e,if_neg e,if_neg (by rintro ⟨-,h⟩;have:=c.2;omega)]
  . rw [if_neg c]
    by_cases e:i=j
    . subst e;rw [if_pos rfl,if_pos rfl,if_neg c]
    . rw [if_neg e,if_neg e]
theorem yma (h:SI N s) (part:Int) (i:Nat):SI N (late1 part s i):=by
 unfold late1
 split
 . exact h
 rename_i p hp
 split
 . exact h
 have hil:=(List.getElem?_eq_some_iff.1 hp).1
 have h2:SI N { s with out:=s.out.map (Sco.late i),paths:=s.paths.set i (Paths.late p part) }:=by
  have e:∀ x,(Sco.late i x).number=x.number /\ (Sco.late i x).path=x.path /\ (Sco.late i x).id=x.id /\ (Sco.late i x).chunk=x.chunk:=fun x=>by unfold Sco.late;split <;> exact ⟨rfl,rfl,rfl,rfl⟩
  refine ⟨h.cfg,fun j y hy=>?_,?_,h.cum,h.owes,?_,h.nhad,h.nmids,h.waits,h.queue,fun y hy=>?_,fun j q hq=>?_,h.many,h.few⟩
  . have hy:(s.out.map (Sco.late i))[j]?=some y:=hy
    rw [List.getElem?_map] at hy
    cases hz:s.out[j]? with
    | none=>rw [hz] at hy;cases hy
    | some z=>rw [hz] at hy;cases hy;rw [(e z).1];exact h.nums j z hz
  . show s.next=s.cum+1+((s.out.map (Sco.late i)).length:Int)
    rw [List.length_map];exact h.next
  . show ((s.paths.set i _).length:Int)=_
    rw [List.length_set];exact h.npaths
  . have hy:y ∈ s.out.map (Sco.late i):=hy
    obtain ⟨z,hz,rfl⟩:=List.mem_map.1 hy
    have q:=h.out z hz
    obtain ⟨g1,g2,g3,g4⟩:=e z
    show XI (s.paths.set i _).length _ _
    rw [List.length_set]
    exact ⟨by rw [g2];exact q.path0,by rw [g2];exact q.path1,by rw [g3];exact q.id0,by rw [g3];exact q.id1,by rw [g4];exact q.spans,by rw [g4];exact q.skips,by rw [g4];exact q.data⟩
  . have hq:(s.paths.set i (Paths.late p part))[j]?=some q:=hq
    show q.flight=(Sco.fl j (s.out.map (Sco.late i)):Nat)
    rw [yio]
    by_cases e:i=j
    . subst e
      rw [List.getElem?_set_self hil] at hq
      cases hq
      rw [if_pos rfl];rfl
    . rw [List.getElem?_set_ne e] at hq
      rw [if_neg e];exact h.flight j q hq
 dsimp only
 split
 . exact h2.side rfl h2.flight
 . exact h2
theorem ych (part:Int):∀ (L:List Nat) {s:Sender},SI N s -> SI N (L.foldl (late1 part) s)
 | [],_,h=>h
 | i :: L,_,h=>ych part L (yma h part i)
theorem zoz (h:SI N s):SI N (tick s):=ych _ _ (h.side rfl h.flight)
end
end Snd
end Go.HL
namespace Go.HL
open Go.Proofs
namespace Sch
set_option maxHeartbeats 4000000
set_option maxRecDepth 100000
set_option linter.unusedSimpArgs false
def pick (q:List Queued):List Int -> Int
 | []=>-1
 | k :: r=>if first q k >= 0 then first q k else pick q r
theorem zpa {q:List Queued}:∀ {H:List Int} {R:List Int},(∀ h ∈ H,¬ first q h >= 0) -> pick q (H++R)=pick q R
 | [],R,_=>rfl
 | h :: H,R,hh=>by
  rw [List.cons_append,pick,if_neg (hh h (by simp))]
  exact zpa fun x hx=>hh x (by simp [hx])
theorem zqu {q:List Queued} {last n:Int} (h1:0 <= last) (h2:last < 2 ^ 41):∀ (j k:Nat),k+j < 2 ^ 41 -> after q last n k j=pick q ((List.range' k j).map fun i:Nat=>(last+1+(i:Int)).tmod n)
 | 0,k,_=>rfl
 | j+1,k,hk=>by
  rw [after,List.range'_succ,List.map_cons,pick,zqu h1 h2 j (k+1) (by omega),W_fit (z:=last+1) (by omega) (by omega),W_fit (by omega) (by omega)]
theorem zwl {q:List Queued}:∀ (j k:Nat),zef q k j=pick q ((List.range' k j).map fun i:Nat=>(i:Int))
 | 0,k=>rfl
 | j+1,k=>by rw [zef,List.range'_succ,List.map_cons,pick,zwl j (k+1)]
def am (p:Nat -> Bool) (had:List Int) (best:Int) (k:Nat):List Int -> Int
 | []=>best
 | n :: r=>if p k=true /\ (best < 0 \/ n < had[best.toNat]?.getD 0) then am p had k (k+1) r else am p had best (k+1) r
theorem znb {q:List Queued} {had:List Int}:∀ (l:List Int) (best:Int) (k:Nat),zcy q had best k l=am (fun k=>decide (first q k >= 0)) had best k l
 | [],_,_=>rfl
 | n :: r,best,k=>by
  rw [zcy,am,znb r,znb r]
  simp only [decide_eq_true_eq]
def Arg (p:Nat -> Bool) (had:List Int) (k:Nat) (b:Int):Prop :=
 (b=-1 /\ ∀ i:Nat,i < k -> p i=false) \/ ∃ m:Nat,b=m /\ m < k /\ p m=true /\ ∀ i:Nat,i < k -> p i=true -> had[m]?.getD 0 <= had[i]?.getD 0 /\ (i < m -> had[m]?.getD 0 < had[i]?.getD 0)
theorem zwm {p:Nat -> Bool} {had:List Int}:∀ (j k:Nat) (b:Int),k+j=had.length -> Arg p had k b -> Arg p had had.length (am p had b k (had.drop k))
 | 0,k,b,h,a=>by
  rw [List.drop_eq_nil_of_le (by omega),am]
  rwa [show k=had.length by omega] at a
 | j+1,k,b,h,a=>by
  have hlt:k < had.length:=by omega
  have hg:had[k]?.getD 0=had[k]:=by simp [hlt]
  rw [List.drop_eq_getElem_cons hlt,am]
  split
  . rename_i c
    refine zwm j (k+1) k (by omega) (.inr ⟨k,rfl,by omega,c.1,fun i hi hp=>?_⟩)
    rcases a with ⟨rfl,h1⟩ | ⟨m,rfl,h1,h2,h3⟩
    . have:i=k:=by
       by_cases e:i=k
       . exact e
       . have:=h1 i (by omega);rw [hp] at this;cases this
      subst this;exact ⟨Int.le_refl _,fun h=>by omega⟩
    . rcases c.2 with c2 | c2
      . omega
      rw [Int.toNat_natCast] at c2
      by_cases e:i=k
      . subst e;exact ⟨Int.le_refl _,fun h=>by omega⟩
      . have:=h3 i (by omega) hp
        rw [hg];omega
  . rename_i c
    refine zwm j (k+1) b (by omega) ?_
    rcases a with ⟨rfl,h1⟩ | ⟨m,rfl,h1,h2,h3⟩
    . refine .inl ⟨rfl,fun i hi=>?_⟩
      by_cases e:i=k
      . subst e
        cases hp:p i with
        | false=>rfl
        | true=>exact absurd ⟨hp,.inl (by decide)⟩ c
      . exact h1 i (by omega)
    . refine .inr ⟨m,rfl,by omega,h2,fun i hi hp=>?_⟩
      by_cases e:i=k
      . subst e
        have:¬ had[i] < had[m]?.getD 0:=fun h=>c ⟨hp,.inr (by rw [Int.toNat_natCast];exact h)⟩
        rw [hg];omega
      . exact h3 i (by omega) hp
theorem yip {p:Nat -> Bool} {had:List Int} {n:Nat} {b b':Int} (h:Arg p had n b) (h':Arg p had n b'):b=b':=by
 rcases h with ⟨rfl,h1⟩ | ⟨m,rfl,h1,h2,h3⟩ <;> rcases h' with ⟨rfl,h4⟩ | ⟨m',rfl,h4,h5,h6⟩
 . rfl
 . rw [h1 m' h4] at h5;cases h5
 . rw [h4 m h1] at h2;cases h2
 . have h7:=h3 m' h4 h5
   have h8:=h6 m h1 h2
   by_cases e:m=m'
   . rw [e]
   . rcases Nat.lt_or_gt_of_ne e with e | e
     . have:=h8.2 e;omega
     . have:=h7.2 e;omega
def nextO (had:List Int) (H:List Int):Int:=am (fun k=>decide ((k:Int) ∉ H)) had (-1) 0 had
def fairO (had:List Int):Nat -> List Int -> List Int
 | 0,H=>H
 | j+1,H=>fairO had j (H++[nextO had H])
theorem zwn {had:List Int}:∀ (j:Nat) (H:List Int),∃ R,fairO had j H=H++R
 | 0,H=>⟨[],by simp [fairO]⟩
 | j+1,H=>by
  obtain ⟨R,h⟩:=zwn (had:=had) j (H++[nextO had H])
  exact ⟨nextO had H :: R,by rw [fairO,h];simp⟩
theorem zwo {had:List Int}:∀ (j:Nat) (H:List Int),(fairO had j H).length=H.length+j
 | 0,H=>rfl
 | j+1,H=>by rw [fairO,zwo j];simp;omega
theorem yiq:∀ (n:Nat) (H:List Int),(∀ i:Nat,i < n -> (i:Int) ∈ H) -> n <= H.length
 | 0,_,_=>Nat.zero_le _
 | n+1,H,h=>by
  have h1:=yiq n (H.erase (n:Int)) fun i hi=>(List.mem_erase_of_ne (by omega)).2 (h i (by omega))
  have h2:(n:Int) ∈ H:=h n (by omega)
  rw [List.length_erase_of_mem h2] at h1
  have:=List.length_pos_of_mem h2
  omega
theorem yir (had H:List Int):Arg (fun k=>decide ((k:Int) ∉ H)) had had.length (nextO had H):=by
 have:=zwm (p:=fun k=>decide ((k:Int) ∉ H)) (had:=had) had.length 0 (-1) (by omega) (.inl ⟨rfl,fun i hi=>by omega⟩)
 exact this
theorem zwp {s:Sched} {q:List Queued}:∀ (j:Nat) (H:List Int),H.length+j=s.had.length -> ((List.range s.had.length).filter fun i:Nat=>decide ((i:Int) ∉ H)).length <= j -> (∀ h ∈ H,¬ first q h >= 0) ->
 pick q (fairO s.had j H)=least s q
 | 0,H,h1,h2,h3=>by
  have hall:∀ i:Nat,i < s.had.length -> (i:Int) ∈ H:=fun i hi=>by
   have h4:(List.range s.had.length).filter (fun i:Nat=>decide ((i:Int) ∉ H))=[]:=List.eq_nil_of_length_eq_zero (by omega)
   rw [List.filter_eq_nil_iff] at h4
   simpa using h4 i (by simpa using hi)
  have ha:Arg (fun k=>decide (first q k >= 0)) s.had s.had.length (-1):=.inl ⟨rfl,fun i hi=>by simpa using h3 _ (hall i hi)⟩
  have hl:=zwm (p:=fun k=>decide (first q k >= 0)) (had:=s.had) s.had.length 0 (-1) (by omega) (.inl ⟨rfl,fun i hi=>by omega⟩)
  have he:=yip ha hl
  have h5:=zpa (R:=[]) h3
  rw [List.append_nil] at h5
  rw [fairO,h5,pick,least,znb]
  show _=if am _ s.had (-1) 0 s.had < 0 then _ else _
  rw [show am (fun k=>decide (first q k >= 0)) s.had (-1) 0 s.had=-1 from he.symm,if_pos (by decide)]
 | j+1,H,h1,h2,h3=>by
  rw [fairO]
  have hn:=yir s.had H
  generalize nextO s.had H=b at hn ⊢
  have hn':=hn
  rcases hn' with ⟨rfl,g1⟩ | ⟨m,rfl,g1,g2,g3⟩
  . have:=yiq s.had.length H fun i hi=>by simpa using g1 i hi
    omega
  by_cases c:first q m >= 0
  . have ha:Arg (fun k=>decide (first q k >= 0)) s.had s.had.length m:=.inr ⟨m,rfl,g1,by simpa using c,fun i hi hp=>g3 i hi (by
     have hp:first q i >= 0:=by simpa using hp
     have:(i:Int) ∉ H:=fun hc=>h3 _ hc hp
     simpa using this)⟩
    have hl:=zwm (p:=fun k=>decide (first q k >= 0)) (had:=s.had) s.had.length 0 (-1) (by omega) (.inl ⟨rfl,fun i hi=>by omega⟩)
    have he:=yip ha hl
    obtain ⟨R,hR⟩:=zwn (had:=s.had) j (H++[(m:Int)])
    rw [hR,List.append_assoc,zpa h3]
    show (if first q m >= 0 then first q m else _)=_
    rw [if_pos c,least,znb]
    show _=if am _ s.had (-1) 0 s.had < 0 then _ else first q (am _ s.had (-1) 0 s.had)
    rw [show am (fun k=>decide (first q k >= 0)) s.had (-1) 0 s.had=m from he.symm,if_neg (by omega)]
  . have g2:(m:Int) ∉ H:=by simpa using g2
    refine zwp j (H++[(m:Int)]) (by simp;omega) ?_ fun h hh=>?_
    . have e:(List.range s.had.length).filter (fun i:Nat=>decide ((i:Int) ∉ H++[(m:Int)]))=((List.range s.had.length).filter fun i:Nat=>decide ((i:Int) ∉ H)).filter fun i:Nat=>decide (i ≠ m):=by
       rw [List.filter_filter]
       refine List.filter_congr fun i _=>?_
       by_cases e1:i=m <;> by_cases e2:(i:Int) ∈ H <;> simp [e1,e2] <;> omega
      rw [e]
      have:=(List.length_filter_lt_length_iff_exists (p:=fun i:Nat=>decide (i ≠ m)) (l:=(List.range s.had.length).filter fun i:Nat=>decide ((i:Int) ∉ H))).2 ⟨m,by simp [g1,g2],by simp⟩
      omega
    . rcases List.mem_append.1 hh with hh | hh
      . exact h3 h hh
      . rw [List.mem_singleton] at hh;subst hh;exact c
def mark (H:List Int) (b:Int):List Int:=if b ∈ H then H else H++[b]
def keys (O:List Int):List Int:=O.foldl mark []
theorem yis (O:List Int) (b:Int):keys (O++[b])=mark (keys O) b:=by simp [keys]
theorem ymb {H:List Int} {b x:Int}:x ∈ mark H b ↔ x ∈ H \/ x=b:=by
 unfold mark
 split
 . rename_i h
   exact ⟨.inl,fun h'=>h'.elim id fun e=>e ▸ h⟩
 . simp
theorem yci:∀ (O:List Int) (H:List Int) (x:Int),x ∈ O.foldl mark H ↔ x ∈ H \/ x ∈ O
 | [],H,x=>by simp
 | b :: O,H,x=>by rw [List.foldl_cons,yci O,ymb,List.mem_cons,or_assoc]
theorem mem_keys {O:List Int} {x:Int}:x ∈ keys O ↔ x ∈ O:=by rw [keys,yci];simp
def ent (n:Int):Value × List PV:=(.int .i64 n,[pb true])
theorem ycj (b:Int):∀ H:List Int,findV (H.map ent) (.int .i64 b)=if b ∈ H then some [pb true] else none
 | []=>rfl
 | x :: H=>by
  rw [List.map_cons,ent,findV,ycj b H]
  by_cases e:b=x
  . subst e;simp [keyEq]
  . have:keyEq (.int .i64 b) (.int .i64 x)=false:=by simpa [keyEq] using e
    rw [this]
    simp [e]
theorem yit (b:Int):∀ H:List Int,putV (H.map ent) (.int .i64 b) [pb true]=(mark H b).map ent
 | []=>rfl
 | x :: H=>by
  rw [List.map_cons,show ent x=(.int .i64 x,[pb true]) from rfl,putV,yit b H]
  by_cases e:b=x
  . subst e;simp [keyEq,mark,ent]
  . have:keyEq (.int .i64 b) (.int .i64 x)=false:=by simpa [keyEq] using e
    rw [this]
    unfold mark
    by_cases e2:b ∈ H
    . simp [e,e2,ent]
    . simp [e,e2,ent]
theorem zir (q:List Queued) (stream:Int) (hb:q.length < 2 ^ 62):FunOK Tryz.prog 168 [qs q,i64 stream] zac (i64 (first q stream)) zac:=by
 refine zah mixed Tryz.func168 (by decide) ?_
 conv=>whnf
 refine ⟨{ k:Nat // k <= q.length /\ zbm (fun m:Queued=>m.message.stream == stream) k (q.drop k)=first q stream },fun | ⟨k,_⟩=>hs 21 [(1,i64 stream),(7,qs q),(8,i64 q.length),(9,i64 k)] [],fun k=>q.length - k.1,⟨0,by simp [first]⟩,?_,?_⟩
 . exact (hle_Q [])
 rintro ⟨k,hk,hi⟩
 conv=>whnf
 by_cases c:k < q.length
 . rw [List.drop_eq_getElem_cons c] at hi
   simp only [zbm] at hi
   refine sT ?_
   refine zbj k rfl c ?_;conv=>whnf
   refine zaf (fun h=>?_) (fun h=>?_)
   . conv=>whnf
     rw [if_pos h] at hi
     rw [<- hi]
   . conv=>whnf
     rw [if_neg (by rw [h];decide)] at hi
     refine sF ?_
     exact ⟨⟨k+1,c,hi⟩,(hle_Q []),by dsimp only;omega⟩
 . rw [List.drop_eq_nil_of_le (by omega)] at hi
   refine sN ?_
   rw [<- hi];rfl
theorem zpm (s:Sched) (hb:s.had.length < 2 ^ 62):FunOK Tryz.prog 68 [s.hv,s.hv] zac (hbool true) zac:=by
 refine zah mixed Tryz.func68 (by decide) ?_
 conv=>whnf
 repeat' (
  refine zab ?_ ?_;· simp;done
  conv=>whnf)
 repeat (refine hcut.go ?_;conv=>whnf)
 refine ⟨{ k:Nat // k <= s.had.length },fun | ⟨k,_⟩=>hs 45 [(2,.ptr 2 0),(3,.ptr 3 0),(29,i64 s.had.length),(30,i64 k)] [(2,.live (.cells 28 s.cells)),(3,.live (.cells 28 s.cells))],fun x=>s.had.length - x.1,⟨0,by omega⟩,?_,?_⟩
 . exact (hle_Q [(2,some 2),(3,some 3)])
 rintro ⟨k,hk⟩
 conv=>whnf
 by_cases c:k < s.had.length
 . refine sT ?_
   refine zbj k rfl c ?_;conv=>whnf
   refine zbj k rfl c ?_;conv=>whnf
   refine sD ?_
   refine zab (by simp) ?_;conv=>whnf
   (try (refine hcut.go ?_;conv=>whnf))
   refine sF ?_
   exact ⟨⟨k+1,c⟩,(hle_Q [(2,some 2),(3,some 3)]),by dsimp only;omega⟩
 . ((refine hif_F ?_;conv=>whnf);try (refine hcut.go ?_;conv=>whnf))
theorem ypt (s:Sched) (m:Queued) (bytes:Int) (over:Bool):(s.had.mapIdx fun k n=>if (k:Int)=m.message.stream then W (n+bytes) else n)=(had s m bytes over).had:=by
 unfold had
 dsimp only
 apply List.ext_getElem
 . split <;> simp
 . intro i h1 h2
   have hi:i < s.had.length:=by simpa using h1
   rw [List.getElem_mapIdx]
   split
   . rename_i e
     have hm:0 <= m.message.stream /\ m.message.stream < s.had.length:=by omega
     simp only [if_pos hm]
     rw [List.getElem_set]
     rw [if_pos (by omega),show m.message.stream.toNat=i by omega]
     simp [hi]
   . rename_i e
     by_cases hm:0 <= m.message.stream /\ m.message.stream < s.had.length
     . simp only [if_pos hm]
       rw [List.getElem_set,if_neg (by omega)]
     . simp only [if_neg hm]
abbrev rowI (l:List Int):HSlot:=.live (.row 3 1 (l.map fun n=>[pi n]))
theorem yiu (s:Sched) (m:Queued) (bytes:Int) (over:Bool) (hb:s.had.length < 2 ^ 40):FunOK Tryz.prog 143 [s.hv,m.hv,i64 bytes,hbool over] zac (had s m bytes over).hv zac:=by
 refine zah mixed Tryz.func143 (by decide) ?_
 have hf:=ypt s m bytes over
 generalize hT:had s m bytes over=T at hf
 have h1:T.last=m.message.stream:=by rw [<- hT];rfl
 have h2:T.hand=if over then -1 else m.id:=by rw [<- hT];rfl
 obtain ⟨a1,a2,a3⟩:=T
 dsimp only at h1 h2 hf
 subst h1
 rw [<- hf,h2]
 clear hT hf h2
 cases over
 all_goals
  conv=>whnf
  repeat (refine hcut.go ?_;conv=>whnf)
 . refine ⟨{ x:List Int × List Int // s.had=x.1++x.2 },fun | ⟨(a,b),_⟩=>hs 44 [(2,i64 bytes),(5,.ptr 5 0),(8,.ptr 8 0),(9,.ptr 9 0),(21,ints s.had),(22,i64 s.had.length),(23,i64 a.length)] [(5,.live (.cells 117 m.cells)),(8,.live (.cells 28 [i64 0,i64 0,hnil])),(9,.live (.cells 28 [i64 m.message.stream,i64 m.id,.own 900])),(900,rowI (a.mapIdx fun k n=>if (k:Int)=m.message.stream then W (n+bytes) else n))],fun x=>x.1.2.length,⟨([],s.had),rfl⟩,?_,?_⟩
   . exact (hle_Q [(5,some 5),(8,some 8),(9,some 9),(900,none)])
   rintro ⟨⟨a,b⟩,h⟩
   dsimp only at h
   cases b with
   | cons n b =>
    have hz:=zar h
    have hsn:(a++[n]).mapIdx (fun k n=>if (k:Int)=m.message.stream then W (n+bytes) else n)=(a.mapIdx fun k n=>if (k:Int)=m.message.stream then W (n+bytes) else n)++[if (a.length:Int)=m.message.stream then W (n+bytes) else n]:=by rw [List.mapIdx_concat]
    conv=>whnf
    refine sT ?_
    refine zaj h rfl ?_;conv=>whnf
    repeat (refine hcut.go ?_;conv=>whnf)
    by_cases c:(a.length:Int)=m.message.stream
    . rw [if_pos c] at hsn
      refine zad (by simpa using c) ?_;conv=>whnf
      (try (refine hcut.go ?_;conv=>whnf))
      refine zbc ?_;conv=>whnf
      (try (refine hcut.go ?_;conv=>whnf))
      refine zaa (c:=(((a.mapIdx fun k n=>if (k:Int)=m.message.stream then W (n+bytes) else n).map fun n=>[pi n]).length+1) * 8 <= 140737488355328) (by simp;omega) ?_;conv=>whnf
      (try (refine hcut.go ?_;conv=>whnf))
      refine sF ?_
      exact ⟨⟨(a++[n],b),zae h⟩,(hle_X [(5,some 5),(8,some 8),(9,some 9),(900,some 40)] (by repeat' (first | exact z0 | refine z1 ?_ | refine ⟨?_,?_⟩ | ((exact zat (f:=fun n=>[pi n]) hsn rfl)) | exact z2))),by simp⟩
    . rw [if_neg c] at hsn
      refine zab (by simpa using c) ?_;conv=>whnf
      (try (refine hcut.go ?_;conv=>whnf))
      refine zaa (c:=(((a.mapIdx fun k n=>if (k:Int)=m.message.stream then W (n+bytes) else n).map fun n=>[pi n]).length+1) * 8 <= 140737488355328) (by simp;omega) ?_;conv=>whnf
      (try (refine hcut.go ?_;conv=>whnf))
      refine sF ?_
      exact ⟨⟨(a++[n],b),zae h⟩,(hle_X [(5,some 5),(8,some 8),(9,some 9),(900,some 40)] (by repeat' (first | exact z0 | refine z1 ?_ | refine ⟨?_,?_⟩ | ((exact zat (f:=fun n=>[pi n]) hsn rfl)) | exact z2))),by simp⟩
   | nil =>
    have hz:=zaz h
    rw [List.append_nil] at h
    conv=>whnf
    refine sN ?_
    rw [h]
    try rfl
 . refine ⟨{ x:List Int × List Int // s.had=x.1++x.2 },fun | ⟨(a,b),_⟩=>hs 44 [(2,i64 bytes),(5,.ptr 5 0),(8,.ptr 8 0),(9,.ptr 9 0),(21,ints s.had),(22,i64 s.had.length),(23,i64 a.length)] [(5,.live (.cells 117 m.cells)),(8,.live (.cells 28 [i64 0,i64 0,hnil])),(9,.live (.cells 28 [i64 m.message.stream,i64 (-1),.own 900])),(900,rowI (a.mapIdx fun k n=>if (k:Int)=m.message.stream then W (n+bytes) else n))],fun x=>x.1.2.length,⟨([],s.had),rfl⟩,?_,?_⟩
   . exact (hle_Q [(5,some 5),(8,some 8),(9,some 9),(900,none)])
   rintro ⟨⟨a,b⟩,h⟩
   dsimp only at h
   cases b with
   | cons n b =>
    have hz:=zar h
    have hsn:(a++[n]).mapIdx (fun k n=>if (k:Int)=m.message.stream then W (n+bytes) else n)=(a.mapIdx fun k n=>if (k:Int)=m.message.stream then W (n+bytes) else n)++[if (a.length:Int)=m.message.stream then W (n+bytes) else n]:=by rw [List.mapIdx_concat]
    conv=>whnf
    refine sT ?_
    refine zaj h rfl ?_;conv=>whnf
    repeat (refine hcut.go ?_;conv=>whnf)
    by_cases c:(a.length:Int)=m.message.stream
    . rw [if_pos c] at hsn
      refine zad (by simpa using c) ?_;conv=>whnf
      (try (refine hcut.go ?_;conv=>whnf))
      refine zbc ?_;conv=>whnf
      (try (refine hcut.go ?_;conv=>whnf))
      refine zaa (c:=(((a.mapIdx fun k n=>if (k:Int)=m.message.stream then W (n+bytes) else n).map fun n=>[pi n]).length+1) * 8 <= 140737488355328) (by simp;omega) ?_;conv=>whnf
      (try (refine hcut.go ?_;conv=>whnf))
      refine sF ?_
      exact ⟨⟨(a++[n],b),zae h⟩,(hle_X [(5,some 5),(8,some 8),(9,some 9),(900,some 40)] (by repeat' (first | exact z0 | refine z1 ?_ | refine ⟨?_,?_⟩ | ((exact zat (f:=fun n=>[pi n]) hsn rfl)) | exact z2))),by simp⟩
    . rw [if_neg c] at hsn
      refine zab (by simpa using c) ?_;conv=>whnf
      (try (refine hcut.go ?_;conv=>whnf))
      refine zaa (c:=(((a.mapIdx fun k n=>if (k:Int)=m.message.stream then W (n+bytes) else n).map fun n=>[pi n]).length+1) * 8 <= 140737488355328) (by simp;omega) ?_;conv=>whnf
      (try (refine hcut.go ?_;conv=>whnf))
      refine sF ?_
      exact ⟨⟨(a++[n],b),zae h⟩,(hle_X [(5,some 5),(8,some 8),(9,some 9),(900,some 40)] (by repeat' (first | exact z0 | refine z1 ?_ | refine ⟨?_,?_⟩ | ((exact zat (f:=fun n=>[pi n]) hsn rfl)) | exact z2))),by simp⟩
   | nil =>
    have hz:=zaz h
    rw [List.append_nil] at h
    conv=>whnf
    refine sN ?_
    rw [h]
    try rfl
theorem yex (turns:Int) (s:Sched) (q:List Queued) (h9:s.had.length < 2 ^ 36) (hb:q.length < 2 ^ 60) (hl:0 < s.had.length -> 0 <= s.last /\ s.last < s.had.length):FunOK Tryz.prog 142 [i64 turns,s.hv,qs q] zac (i64 (next turns s q)) zac:=by
 refine zah mixed Tryz.func142 (by decide) ?_
 have hb:q.length < 2 ^ 62:=by omega
 have hl1:(s.had.map fun n=>[pi n]).length=s.had.length:=by simp
 conv=>whnf
 by_cases c1:(q.length:Int)=0
 . rw [next,if_pos c1]
   refine zad (by simpa using c1) ?_;conv=>whnf
   repeat (refine hcut.go ?_;conv=>whnf)
 rw [next,if_neg c1]
 refine zab (by simpa using c1) ?_;conv=>whnf
 by_cases c2:(s.had.length:Int)=0
 . rw [if_pos c2]
   refine zad (by simpa using c2) ?_;conv=>whnf
   repeat (refine hcut.go ?_;conv=>whnf)
 rw [if_neg c2]
 obtain ⟨g1,g2⟩:=hl (by omega)
 have hafter:=zqu (q:=q) (last:=s.last) (n:=s.had.length) g1 (by omega) s.had.length 0 (by omega)
 refine zab (by simpa using c2) ?_;conv=>whnf
 repeat (refine hcut.go ?_;conv=>whnf)
 by_cases c3:turns=2
 . subst c3
   rw [if_pos rfl]
   conv=>whnf
   repeat (refine hcut.go ?_;conv=>whnf)
   refine ⟨{ k:Nat // k <= q.length /\ zbm (fun m:Queued=>m.id == s.hand) k (q.drop k)=zjw s q },fun | ⟨k,_⟩=>hs 127 [(0,i64 2),(2,qs q),(4,.ptr 4 0),(7,i64 s.had.length),(31,qs q),(32,i64 q.length),(33,i64 k)] [(4,.live (.cells 28 s.cells))],fun k=>q.length - k.1,⟨0,by simp [zjw]⟩,?_,?_⟩
   . exact (hle_Q [(4,some 4)])
   rintro ⟨k,hk,hi⟩
   refine zbk fun Q hQ=>?_
   conv=>whnf
   by_cases c:k < q.length
   . rw [List.drop_eq_getElem_cons c] at hi
     simp only [zbm] at hi
     refine sT ?_
     refine zbj k rfl c ?_;conv=>whnf
     refine zaf (fun h=>?_) (fun h=>?_)
     . conv=>whnf
       rw [if_pos h] at hi
       refine hQ _ _ ?_;conv=>whnf
       rw [if_pos (show zjw s q >= 0 by rw [<- hi];omega),<- hi]
     . conv=>whnf
       rw [if_neg (by rw [h];decide)] at hi
       (try (refine hcut.go ?_;conv=>whnf))
       refine sF ?_
       refine hQ _ _ ?_;conv=>whnf
       exact ⟨⟨k+1,c,hi⟩,(hle_Q [(4,some 4)]),by dsimp only;omega⟩
   . rw [List.drop_eq_nil_of_le (by omega)] at hi
     refine sN ?_
     refine hQ _ _ ?_;conv=>whnf
     rw [if_neg (show ¬ zjw s q >= 0 by rw [<- hi];simp [zbm])]
     repeat (refine hcut.go ?_;conv=>whnf)
     refine ⟨{ k:Nat // k <= s.had.length },fun | ⟨k,_⟩=>hs 127 [(2,qs q),(4,.ptr 4 0),(7,i64 s.had.length),(10,.own 900),(11,i64 (k+1))] [(4,.live (.cells 28 s.cells)),(900,rowI ((List.range' 0 k).map fun i:Nat=>(s.last+1+(i:Int)).tmod s.had.length))],fun k=>s.had.length - k.1,⟨0,by omega⟩,?_,?_⟩
     . exact (hle_Q [(4,some 4),(900,none)])
     rintro ⟨k,hk⟩
     refine zbk fun Q hQ=>?_
     conv=>whnf
     by_cases c:k < s.had.length
     . refine sT ?_
       refine sF ?_
       refine sO ?_
       refine zaa (c:=((((List.range' 0 k).map fun i:Nat=>(s.last+1+(i:Int)).tmod s.had.length).map fun n=>[pi n]).length+1) * 8 <= 140737488355328) (by simp;omega) ?_;conv=>whnf
       (try (refine hcut.go ?_;conv=>whnf))
       refine sF ?_
       refine hQ _ _ ?_;conv=>whnf
       exact ⟨⟨k+1,c⟩,(hle_X [(4,some 4),(900,some 62)] (by repeat' (first | exact z0 | refine z1 ?_ | refine ⟨?_,?_⟩ | ((exact zbg om)) | ((refine zat (f:=fun n=>[pi n]) (x:=(s.last+((k:Int)+1)).tmod s.had.length) (by rw [List.range'_concat,List.map_append,show s.last+((k:Int)+1)=s.last+1+(k:Int) by omega];simp) rfl)) | exact z2))),by dsimp only;omega⟩
     . refine sN ?_
       refine hQ _ _ ?_;conv=>whnf
       have hkk:k=s.had.length:=by omega
       subst hkk
       rw [hafter]
       obtain ⟨O,hO⟩:∃ O,O=((List.range' 0 s.had.length).map fun i:Nat=>(s.last+1+(i:Int)).tmod s.had.length):=⟨_,rfl⟩
       rw [<- hO]
       generalize hN:pick q O=N
       have hOl:O.length=s.had.length:=by rw [hO];simp
       refine ⟨{ x:List Int × List Int // (O)=x.1++x.2 /\ pick q x.2=N },fun | ⟨(a,b),_⟩=>hs 127 [(2,qs q),(114,.own 900),(115,i64 (O).length),(116,i64 a.length)] [(900,rowI (O))],fun x=>x.1.2.length,⟨([],O),rfl,hN⟩,?_,?_⟩
       . exact (hle_X [(900,some 900)] (by repeat' (first | exact z0 | refine z1 ?_ | refine ⟨?_,?_⟩ | ((exact zbg (by rw [hO];simp))) | ((exact zao (by rw [hO]))) | exact z2)))
       rintro ⟨⟨a,b⟩,h,hp⟩
       dsimp only at h hp
       refine zbk fun Q hQ=>?_
       cases b with
       | cons k b =>
        have hz:=zar h
        rw [pick] at hp
        conv=>whnf
        refine zad (by rw [decide_eq_true_eq];omega) ?_;conv=>whnf
        refine sO ?_
        refine zaj h rfl ?_;conv=>whnf
        (refine cL ?_;refine dL (zir q k hb) ?_)
        by_cases c:first q k >= 0
        . rw [if_pos c] at hp
          refine zad (by simpa using c) ?_;conv=>whnf
          refine hQ _ _ ?_;conv=>whnf
          rw [hp]
        . rw [if_neg c] at hp
          refine zab (by simpa using c) ?_;conv=>whnf
          (try (refine hcut.go ?_;conv=>whnf))
          refine sFm ?_
          refine hQ _ _ ?_;conv=>whnf
          exact ⟨⟨(a++[k],b),zae h,hp⟩,(hle_Q [(900,some 900)]),by simp⟩
       | nil =>
        have hz:=zaz h
        conv=>whnf
        refine zab (by rw [decide_eq_false_iff_not];omega) ?_;conv=>whnf
        refine hQ _ _ ?_;conv=>whnf
        rw [<- hp];rfl
 rw [if_neg c3]
 refine zab (by simpa using c3) ?_;conv=>whnf
 repeat (refine hcut.go ?_;conv=>whnf)
 refine zab (by simpa using c3) ?_;conv=>whnf
 repeat (refine hcut.go ?_;conv=>whnf)
 by_cases c4:turns=3
 . subst c4
   rw [if_pos rfl]
   conv=>whnf
   repeat (refine hcut.go ?_;conv=>whnf)
   refine ⟨{ k:Nat // k <= s.had.length },fun | ⟨k,_⟩=>hs 127 [(2,qs q),(4,.ptr 4 0),(7,i64 s.had.length),(10,.own 900),(11,i64 (k+1))] [(4,.live (.cells 28 s.cells)),(900,rowI ((List.range' 0 k).map fun i:Nat=>(s.last+1+(i:Int)).tmod s.had.length))],fun k=>s.had.length - k.1,⟨0,by omega⟩,?_,?_⟩
   . exact (hle_Q [(4,some 4),(900,none)])
   rintro ⟨k,hk⟩
   refine zbk fun Q hQ=>?_
   conv=>whnf
   by_cases c:k < s.had.length
   . refine sT ?_
     refine sF ?_
     refine sO ?_
     refine zaa (c:=((((List.range' 0 k).map fun i:Nat=>(s.last+1+(i:Int)).tmod s.had.length).map fun n=>[pi n]).length+1) * 8 <= 140737488355328) (by simp;omega) ?_;conv=>whnf
     (try (refine hcut.go ?_;conv=>whnf))
     refine sF ?_
     refine hQ _ _ ?_;conv=>whnf
     exact ⟨⟨k+1,c⟩,(hle_X [(4,some 4),(900,some 62)] (by repeat' (first | exact z0 | refine z1 ?_ | refine ⟨?_,?_⟩ | ((exact zbg om)) | ((refine zat (f:=fun n=>[pi n]) (x:=(s.last+((k:Int)+1)).tmod s.had.length) (by rw [List.range'_concat,List.map_append,show s.last+((k:Int)+1)=s.last+1+(k:Int) by omega];simp) rfl)) | exact z2))),by dsimp only;omega⟩
   . refine sN ?_
     refine hQ _ _ ?_;conv=>whnf
     have hkk:k=s.had.length:=by omega
     subst hkk
     rw [hafter]
     obtain ⟨O,hO⟩:∃ O,O=((List.range' 0 s.had.length).map fun i:Nat=>(s.last+1+(i:Int)).tmod s.had.length):=⟨_,rfl⟩
     rw [<- hO]
     generalize hN:pick q O=N
     have hOl:O.length=s.had.length:=by rw [hO];simp
     refine ⟨{ x:List Int × List Int // (O)=x.1++x.2 /\ pick q x.2=N },fun | ⟨(a,b),_⟩=>hs 127 [(2,qs q),(114,.own 900),(115,i64 (O).length),(116,i64 a.length)] [(900,rowI (O))],fun x=>x.1.2.length,⟨([],O),rfl,hN⟩,?_,?_⟩
     . exact (hle_X [(900,some 900)] (by repeat' (first | exact z0 | refine z1 ?_ | refine ⟨?_,?_⟩ | ((exact zbg (by rw [hO];simp))) | ((exact zao (by rw [hO]))) | exact z2)))
     rintro ⟨⟨a,b⟩,h,hp⟩
     dsimp only at h hp
     refine zbk fun Q hQ=>?_
     cases b with
     | cons k b =>
      have hz:=zar h
      rw [pick] at hp
      conv=>whnf
      refine zad (by rw [decide_eq_true_eq];omega) ?_;conv=>whnf
      refine sO ?_
      refine zaj h rfl ?_;conv=>whnf
      (refine cL ?_;refine dL (zir q k hb) ?_)
      by_cases c:first q k >= 0
      . rw [if_pos c] at hp
        refine zad (by simpa using c) ?_;conv=>whnf
        refine hQ _ _ ?_;conv=>whnf
        rw [hp]
      . rw [if_neg c] at hp
        refine zab (by simpa using c) ?_;conv=>whnf
        (try (refine hcut.go ?_;conv=>whnf))
        refine sFm ?_
        refine hQ _ _ ?_;conv=>whnf
        exact ⟨⟨(a++[k],b),zae h,hp⟩,(hle_Q [(900,some 900)]),by simp⟩
     | nil =>
      have hz:=zaz h
      conv=>whnf
      refine zab (by rw [decide_eq_false_iff_not];omega) ?_;conv=>whnf
      refine hQ _ _ ?_;conv=>whnf
      rw [<- hp];rfl
 rw [if_neg c4]
 refine zab (by simpa using c4) ?_;conv=>whnf
 repeat (refine hcut.go ?_;conv=>whnf)
 by_cases c5:turns=4
 . subst c5
   rw [if_pos rfl,zwl]
   conv=>whnf
   repeat (refine hcut.go ?_;conv=>whnf)
   refine ⟨{ k:Nat // k <= s.had.length },fun | ⟨k,_⟩=>hs 127 [(2,qs q),(10,.own 900),(65,i64 s.had.length),(66,i64 k)] [(900,rowI ((List.range' 0 k).map fun i:Nat=>(i:Int)))],fun k=>s.had.length - k.1,⟨0,by omega⟩,?_,?_⟩
   . exact (hle_Q [(900,none)])
   rintro ⟨k,hk⟩
   refine zbk fun Q hQ=>?_
   conv=>whnf
   by_cases c:k < s.had.length
   . refine sT ?_
     refine zaa (c:=((((List.range' 0 k).map fun i:Nat=>(i:Int)).map fun n=>[pi n]).length+1) * 8 <= 140737488355328) (by simp;omega) ?_;conv=>whnf
     (try (refine hcut.go ?_;conv=>whnf))
     refine sF ?_
     refine hQ _ _ ?_;conv=>whnf
     exact ⟨⟨k+1,c⟩,(hle_X [(900,some 72)] (by repeat' (first | exact z0 | refine z1 ?_ | refine ⟨?_,?_⟩ | ((exact zat (f:=fun n=>[pi n]) (x:=(k:Int)) (by rw [List.range'_concat];simp) rfl)) | exact z2))),by dsimp only;omega⟩
   . refine sN ?_
     refine hQ _ _ ?_;conv=>whnf
     have hkk:k=s.had.length:=by omega
     subst hkk
     obtain ⟨O,hO⟩:∃ O,O=((List.range' 0 s.had.length).map fun i:Nat=>(i:Int)):=⟨_,rfl⟩
     rw [<- hO]
     generalize hN:pick q O=N
     have hOl:O.length=s.had.length:=by rw [hO];simp
     refine ⟨{ x:List Int × List Int // (O)=x.1++x.2 /\ pick q x.2=N },fun | ⟨(a,b),_⟩=>hs 127 [(2,qs q),(114,.own 900),(115,i64 (O).length),(116,i64 a.length)] [(900,rowI (O))],fun x=>x.1.2.length,⟨([],O),rfl,hN⟩,?_,?_⟩
     . exact (hle_X [(900,some 900)] (by repeat' (first | exact z0 | refine z1 ?_ | refine ⟨?_,?_⟩ | ((exact zbg (by rw [hO];simp))) | ((exact zao (by rw [hO]))) | exact z2)))
     rintro ⟨⟨a,b⟩,h,hp⟩
     dsimp only at h hp
     refine zbk fun Q hQ=>?_
     cases b with
     | cons k b =>
      have hz:=zar h
      rw [pick] at hp
      conv=>whnf
      refine zad (by rw [decide_eq_true_eq];omega) ?_;conv=>whnf
      refine sO ?_
      refine zaj h rfl ?_;conv=>whnf
      (refine cL ?_;refine dL (zir q k hb) ?_)
      by_cases c:first q k >= 0
      . rw [if_pos c] at hp
        refine zad (by simpa using c) ?_;conv=>whnf
        refine hQ _ _ ?_;conv=>whnf
        rw [hp]
      . rw [if_neg c] at hp
        refine zab (by simpa using c) ?_;conv=>whnf
        (try (refine hcut.go ?_;conv=>whnf))
        refine sFm ?_
        refine hQ _ _ ?_;conv=>whnf
        exact ⟨⟨(a++[k],b),zae h,hp⟩,(hle_Q [(900,some 900)]),by simp⟩
     | nil =>
      have hz:=zaz h
      conv=>whnf
      refine zab (by rw [decide_eq_false_iff_not];omega) ?_;conv=>whnf
      refine hQ _ _ ?_;conv=>whnf
      rw [<- hp];rfl
 rw [if_neg c5]
 refine zab (by simpa using c5) ?_;conv=>whnf
 repeat (refine hcut.go ?_;conv=>whnf)
 by_cases c6:turns=5
 . subst c6
   rw [if_pos rfl,<- zwp s.had.length [] (by simp) (by simpa using List.length_filter_le _ (List.range s.had.length)) (by simp)]
   conv=>whnf
   repeat (refine hcut.go ?_;conv=>whnf)
   obtain ⟨O,hO⟩:∃ O,O=fairO s.had s.had.length []:=⟨_,rfl⟩
   rw [<- hO]
   generalize hN:pick q O=N
   have hOl:O.length=s.had.length:=by rw [hO,zwo];simp
   refine ⟨{ x:Nat × List Int // x.1 <= s.had.length /\ x.2.length=x.1 /\ fairO s.had (s.had.length - x.1) x.2=O },fun | ⟨(j,H),_⟩=>hs 127 [(2,qs q),(4,.ptr 4 0),(7,i64 s.had.length),(10,.own 900),(13,.mp 901),(77,i64 s.had.length),(78,i64 j)] [(4,.live (.cells 28 s.cells)),(900,rowI H),(901,.live (.map 4 false ((keys H).map ent)))],fun x=>s.had.length - x.1.1,⟨(0,[]),by dsimp only;omega,rfl,by dsimp only;rw [hO];rfl⟩,?_,?_⟩
   . exact (hle_Q [(4,some 4),(900,none),(901,some 76)])
   rintro ⟨⟨j,H⟩,h1,h2,h3⟩
   dsimp only at h1 h2 h3
   refine zbk fun Q0 hQ0=>?_
   conv=>whnf
   by_cases c:j < s.had.length
   . obtain ⟨d,hd⟩:∃ d,s.had.length - j=d+1:=⟨s.had.length - j - 1,by omega⟩
     have hd2:s.had.length - (j+1)=d:=by omega
     rw [hd,fairO] at h3
     refine sT ?_
     refine ⟨{ x:Nat × Int // x.1 <= s.had.length /\ (x.2 < 0 \/ x.2 < x.1) /\ am (fun k=>decide ((k:Int) ∉ H)) s.had x.2 x.1 (s.had.drop x.1)=nextO s.had H },fun | ⟨(k,b),_⟩=>hs 127 [(2,qs q),(4,.ptr 4 0),(7,i64 s.had.length),(10,.own 900),(13,.mp 901),(77,i64 s.had.length),(78,i64 j),(14,i64 b),(80,i64 s.had.length),(81,i64 k)] [(4,.live (.cells 28 s.cells)),(900,rowI H),(901,.live (.map 4 false ((keys H).map ent)))],fun x=>s.had.length - x.1.1,⟨(0,-1),by dsimp only;omega,.inl (by dsimp only;omega),rfl⟩,?_,?_⟩
     . exact (hle_Q [(4,some 4),(900,some 900),(901,some 901)])
     rintro ⟨⟨k,b⟩,g1,g2,g3⟩
     dsimp only at g1 g2 g3
     refine zbk fun Q hQ=>?_
     conv=>whnf
     by_cases c7:k < s.had.length
     . rw [List.drop_eq_getElem_cons c7,am] at g3
       refine sT ?_
       have hf:=ycj (k:Int) (keys H)
       by_cases c8:(k:Int) ∈ H
       . rw [if_pos (mem_keys.2 c8)] at hf
         rw [if_neg (by simp [c8])] at g3
         refine ⟨_,hf.symm,?_⟩;conv=>whnf
         refine sD ?_
         (try (refine hcut.go ?_;conv=>whnf))
         refine sF ?_
         refine hQ _ _ ?_;conv=>whnf
         exact ⟨⟨(k+1,b),c7,by dsimp only;omega,g3⟩,(hle_Q [(4,some 4),(900,some 900),(901,some 901)]),by dsimp only;omega⟩
       . rw [if_neg (fun h=>c8 (mem_keys.1 h))] at hf
         refine ⟨_,hf.symm,?_⟩;conv=>whnf
         by_cases c9:b < 0
         . rw [if_pos ⟨by simp [c8],.inl c9⟩] at g3
           refine zad (by simpa using c9) ?_;conv=>whnf
           refine sD ?_
           (try (refine hcut.go ?_;conv=>whnf))
           refine sF ?_
           refine hQ _ _ ?_;conv=>whnf
           exact ⟨⟨(k+1,(k:Int)),c7,.inr (by dsimp only;omega),g3⟩,(hle_Q [(4,some 4),(900,some 900),(901,some 901)]),by dsimp only;omega⟩
         . obtain ⟨m,hbm⟩:∃ m:Nat,b=m:=⟨b.toNat,by omega⟩
           have hm:m < s.had.length:=by omega
           have hg:s.had[m]?.getD 0=s.had[m]:=by simp [hm]
           rw [show b.toNat=m by omega,hg] at g3
           refine zab (by simpa using c9) ?_;conv=>whnf
           refine zbj k rfl c7 ?_;conv=>whnf
           refine zbj m hbm hm ?_;conv=>whnf
           refine sD ?_
           by_cases c10:s.had[k] < s.had[m]
           . rw [if_pos ⟨by simp [c8],.inr c10⟩] at g3
             refine zad (by simpa using c10) ?_;conv=>whnf
             (try (refine hcut.go ?_;conv=>whnf))
             refine sF ?_
             refine hQ _ _ ?_;conv=>whnf
             exact ⟨⟨(k+1,(k:Int)),c7,.inr (by dsimp only;omega),g3⟩,(hle_Q [(4,some 4),(900,some 900),(901,some 901)]),by dsimp only;omega⟩
           . rw [if_neg (fun h=>h.2.elim c9 c10)] at g3
             refine zab (by simpa using c10) ?_;conv=>whnf
             (try (refine hcut.go ?_;conv=>whnf))
             refine sF ?_
             refine hQ _ _ ?_;conv=>whnf
             exact ⟨⟨(k+1,b),c7,.inr (by dsimp only;omega),g3⟩,(hle_Q [(4,some 4),(900,some 900),(901,some 901)]),by dsimp only;omega⟩
     . rw [List.drop_eq_nil_of_le (by omega),am] at g3
       subst g3
       refine sN ?_
       refine hQ _ _ ?_;conv=>whnf
       refine ⟨_,(yit _ _).symm,?_⟩;conv=>whnf
       refine zaa (c:=((H.map fun n=>[pi n]).length+1) * 8 <= 140737488355328) (by simp;omega) ?_;conv=>whnf
       (try (refine hcut.go ?_;conv=>whnf))
       refine sF ?_
       refine hQ0 _ _ ?_;conv=>whnf
       exact ⟨⟨(j+1,H++[nextO s.had H]),c,by simp [h2],by dsimp only;rw [hd2];exact h3⟩,(hle_X [(4,some 4),(900,some 112),(901,some 901)] (by repeat' (first | exact z0 | refine z1 ?_ | refine ⟨?_,?_⟩ | ((exact zat (f:=fun n=>[pi n]) rfl rfl)) | ((simp [yis])) | exact z2))),by dsimp only;omega⟩
   . have hjj:j=s.had.length:=by omega
     subst hjj
     rw [Nat.sub_self,fairO] at h3
     refine sN ?_
     refine hQ0 _ _ ?_;conv=>whnf
     refine ⟨{ x:List Int × List Int // (O)=x.1++x.2 /\ pick q x.2=N },fun | ⟨(a,b),_⟩=>hs 127 [(2,qs q),(114,.own 900),(115,i64 (O).length),(116,i64 a.length)] [(900,rowI (O))],fun x=>x.1.2.length,⟨([],O),rfl,hN⟩,?_,?_⟩
     . exact (hle_X [(900,some 900)] (by repeat' (first | exact z0 | refine z1 ?_ | refine ⟨?_,?_⟩ | ((exact zbg (by rw [<- h3];simp))) | ((exact zao (by rw [h3]))) | exact z2)))
     rintro ⟨⟨a,b⟩,h,hp⟩
     dsimp only at h hp
     refine zbk fun Q hQ=>?_
     cases b with
     | cons k b =>
      have hz:=zar h
      rw [pick] at hp
      conv=>whnf
      refine zad (by rw [decide_eq_true_eq];omega) ?_;conv=>whnf
      refine sO ?_
      refine zaj h rfl ?_;conv=>whnf
      (refine cL ?_;refine dL (zir q k hb) ?_)
      by_cases c:first q k >= 0
      . rw [if_pos c] at hp
        refine zad (by simpa using c) ?_;conv=>whnf
        refine hQ _ _ ?_;conv=>whnf
        rw [hp]
      . rw [if_neg c] at hp
        refine zab (by simpa using c) ?_;conv=>whnf
        (try (refine hcut.go ?_;conv=>whnf))
        refine sFm ?_
        refine hQ _ _ ?_;conv=>whnf
        exact ⟨⟨(a++[k],b),zae h,hp⟩,(hle_Q [(900,some 900)]),by simp⟩
     | nil =>
      have hz:=zaz h
      conv=>whnf
      refine zab (by rw [decide_eq_false_iff_not];omega) ?_;conv=>whnf
      refine hQ _ _ ?_;conv=>whnf
      rw [<- hp];rfl
 rw [if_neg c6]
 refine zab (by simpa using c6) ?_;conv=>whnf
end Sch
end Go.HL
namespace Go.HL
open Go.Proofs
set_option maxHeartbeats 1000000
set_option maxRecDepth 100000
set_option linter.unusedSimpArgs false
theorem zpn (l:List Span) (hb:l.length < 2 ^ 40):FunOK Tryz.prog 149 [Ser.spans l,Ser.spans l] zac (hbool true) zac:=by
 refine zah mixed Tryz.func149 (by decide) ?_
 conv=>whnf
 refine zab ?_ ?_
 . simp
 conv=>whnf
 refine ⟨{ k:Nat // k <= l.length },fun | ⟨k,_⟩=>hs 26 [(0,Ser.spans l),(1,Ser.spans l),(12,i64 l.length),(13,i64 k)] [],fun x=>l.length - x.1,⟨0,by omega⟩,?_,?_⟩
 . exact zbo [] rfl rfl rfl rfl ⟨⟨rfl,rfl⟩,⟨rfl,rfl⟩,⟨rfl,by simp;rfl⟩,⟨rfl,rfl⟩,trivial⟩ trivial
 rintro ⟨k,hk⟩
 conv=>whnf
 refine zaf (fun c=>?_) (fun c=>?_)
 . have hlt:k < l.length:=by simpa using c
   conv=>whnf
   refine zbj k rfl hlt ?_;conv=>whnf
   refine zbj k rfl hlt ?_;conv=>whnf
   refine zaa ?_ ?_
   . kernel_rfl
   conv=>whnf
   refine zas ?_ ?_
   . kernel_rfl
   conv=>whnf
   refine zab ?_ ?_
   . simp
   conv=>whnf
   refine sFm ?_
   exact ⟨⟨k+1,hlt⟩,zbo [] rfl rfl rfl rfl ⟨⟨rfl,rfl⟩,⟨rfl,rfl⟩,⟨rfl,rfl⟩,⟨rfl,by simp;rfl⟩,trivial⟩ trivial,by dsimp only;omega⟩
 . conv=>whnf
theorem yiv (c:Chunk) (h9:c.spans.length < 2 ^ 40) (h8:c.skips.length < 2 ^ 40):FunOK Tryz.prog 119 [c.hv,c.hv] zac (hbool true) zac:=by
 refine zah mixed Tryz.func119 (by decide) ?_
 conv=>whnf
 repeat' (first | (refine zab ?_ ?_;(· simp;done);conv=>whnf) | (refine zgb rfl ?_;conv=>whnf) | (refine zav ?_;(conv=>whnf);refine ⟨_,zpn c.spans h9,rfl,?_⟩;conv=>whnf))
 refine ⟨{ k:Nat // k <= c.skips.length },fun | ⟨k,_⟩=>hs 104 [(2,.ptr 2 0),(3,.ptr 3 0),(88,i64 c.skips.length),(89,i64 k)] [(2,.live (.cells 61 c.cells)),(3,.live (.cells 61 c.cells))],fun x=>c.skips.length - x.1,⟨0,by omega⟩,?_,?_⟩
 . exact zbo [(2,some 2),(3,some 3)] rfl rfl rfl rfl ⟨⟨rfl,rfl⟩,⟨rfl,rfl⟩,⟨rfl,by simp;rfl⟩,⟨rfl,rfl⟩,trivial⟩ ⟨⟨rfl,.inl ⟨2,rfl,rfl⟩⟩,⟨rfl,.inl ⟨3,rfl,rfl⟩⟩,trivial⟩
 rintro ⟨k,hk⟩
 conv=>whnf
 refine zaf (fun c1=>?_) (fun c1=>?_)
 . have hlt:k < c.skips.length:=by simpa using c1
   conv=>whnf
   refine zbj k rfl hlt ?_;conv=>whnf
   refine zbj k rfl hlt ?_;conv=>whnf
   refine zaa ?_ ?_
   . kernel_rfl
   conv=>whnf
   refine zas ?_ ?_
   . kernel_rfl
   conv=>whnf
   refine zab ?_ ?_
   . simp
   conv=>whnf
   refine sFm ?_
   exact ⟨⟨k+1,hlt⟩,zbo [(2,some 2),(3,some 3)] rfl rfl rfl rfl ⟨⟨rfl,rfl⟩,⟨rfl,rfl⟩,⟨rfl,rfl⟩,⟨rfl,by simp;rfl⟩,trivial⟩ ⟨⟨rfl,.inl ⟨2,rfl,rfl⟩⟩,⟨rfl,.inl ⟨3,rfl,rfl⟩⟩,trivial⟩,by dsimp only;omega⟩
 . conv=>whnf
end Go.HL
namespace Go.HL
open Go.Proofs
namespace Sco
open Ser
set_option maxHeartbeats 2000000
set_option maxRecDepth 100000
set_option linter.unusedSimpArgs false
theorem ztq (l:List Sent) (hl:l.length < 2 ^ 38) (hc:∀ s ∈ l,s.chunk.spans.length < 2 ^ 38 /\ s.chunk.skips.length < 2 ^ 38):FunOK Tryz.prog 69 [sents l,sents l] zac (hbool true) zac:=by
 refine zah mixed Tryz.func69 (by decide) ?_
 conv=>whnf
 refine sN ?_
 refine ⟨{ x:List Sent × List Sent // l=x.1++x.2 },fun | ⟨(a,b),_⟩=>hs 96 [(0,sents l),(1,sents l),(14,i64 l.length),(15,i64 a.length)] [],fun x=>x.1.2.length,⟨([],l),rfl⟩,?_,?_⟩
 . exact (hle_Q [])
 rintro ⟨⟨a,b⟩,h⟩
 dsimp only at h
 cases b with
 | nil =>
  have hz:=zaz h
  conv=>whnf
  ((refine hif_F ?_;conv=>whnf);try (refine hcut.go ?_;conv=>whnf))
 | cons s b =>
  have hz:=zar h
  obtain ⟨s1,s2⟩:=hc s (zfb h)
  conv=>whnf
  refine sT ?_
  refine zaj h rfl ?_;conv=>whnf
  refine zaj h rfl ?_;conv=>whnf
  refine sD ?_
  repeat' (first | (refine zab ?_ ?_;(· simp;done);conv=>whnf))
  (refine cL ?_;refine dL (yiv s.chunk (by omega) (by omega)) ?_)
  refine sF ?_
  exact ⟨⟨(a++[s],b),zae h⟩,(hle_Q []),by simp⟩
end Sco
end Go.HL
namespace Go.HL
open Go.Proofs
namespace Sco
open Ser
set_option maxHeartbeats 4000000
set_option maxRecDepth 100000
set_option linter.unusedSimpArgs false
theorem zwq (l:List Sent) (path:Int) (hl:Sized l):FunOK Tryz.prog 46 [sents l,i64 path] zac (i64 (fl path l)) zac:=by
 obtain ⟨hl1,hl2⟩:=hl
 refine zah mixed Tryz.func46 (by decide) ?_
 conv=>whnf
 refine ⟨{ x:List Sent × List Sent // l=x.1++x.2 },fun | ⟨(a,b),_⟩=>hs 31 [(1,i64 path),(5,i64 (fl path a)),(8,sents l),(9,i64 l.length),(10,i64 a.length)] [],fun x=>x.1.2.length,⟨([],l),rfl⟩,?_,?_⟩
 . exact (hle_Q [])
 rintro ⟨⟨a,b⟩,h⟩
 dsimp only at h
 cases b with
 | nil =>
  have hz:=zaz h
  conv=>whnf
  refine sN ?_
  rw [h,List.append_nil]
 | cons s b =>
  have hz:=zar h
  have hf:=fl_le path a
  rw [h,zfa,zeb] at hl2
  have e1:=ybn path a [s]
  rw [zoi] at e1
  conv=>whnf
  refine sT ?_
  (try (refine hcut.go ?_;conv=>whnf))
  refine zaj h rfl ?_;conv=>whnf
  refine zaf (fun c1=>?_) (fun c1=>?_)
  . conv=>whnf
    refine zaf (fun c2=>?_) (fun c2=>?_)
    . conv=>whnf
      rw [if_pos ⟨by simpa using c2,by simpa using c1⟩] at e1
      refine sF ?_
      refine sF ?_
      exact ⟨⟨(a++[s],b),zae h⟩,(hle_X [] (by repeat' (first | exact z0 | refine z1 ?_ | refine ⟨?_,?_⟩ | (exact zbg (by rw [e1];simp)) | exact z2))),by simp⟩
    . conv=>whnf
      rw [if_neg (by rintro ⟨h1,h2⟩;simp [h1] at c2)] at e1
      refine sF ?_
      exact ⟨⟨(a++[s],b),zae h⟩,(hle_X [] (by repeat' (first | exact z0 | refine z1 ?_ | refine ⟨?_,?_⟩ | (exact zbg (by rw [e1];simp)) | exact z2))),by simp⟩
  . conv=>whnf
    rw [if_neg (by rintro ⟨h1,h2⟩;simp [h2] at c1)] at e1
    refine sF ?_
    exact ⟨⟨(a++[s],b),zae h⟩,(hle_X [] (by repeat' (first | exact z0 | refine z1 ?_ | refine ⟨?_,?_⟩ | (exact zbg (by rw [e1];simp)) | exact z2))),by simp⟩
theorem yey (l:List Sent) (cum:Int) (c:Chunk) (paths:Int) (hl:Sized l) (hr:Right l cum paths) (hsp:c.spans.length < 2 ^ 60) :
 FunOK Tryz.prog 84 [sents l,i64 cum,c.hv,i64 paths] zac (.tup [sents (sack l cum c paths).1,i64 (sack l cum c paths).2.1,ints (sack l cum c paths).2.2.1,ints (sack l cum c paths).2.2.2]) zac:=by
 have hl1:=hl.len
 have hp0:=hr.p0
 have hp1:=hr.p1
 have hc0:=hr.c0
 have hc1:=hr.c1
 refine zah mixed Tryz.func84 (by decide) ?_
 have hn:=zhp (a:=cum) (t:=c.tag) (by omega) (by omega)
 rw [sack]
 have hsr:=zgp cum c.tag (by omega) (by omega)
 generalize hN:near cum c.tag=n at hn hsr ⊢
 have e21:HSlot.live (.row 3 1 (List.replicate paths.toNat [pi 0]))=intB (List.replicate paths.toNat 0):=by
  rw [intB,List.map_replicate]
 conv=>whnf
 refine zaa (c:=0 <= paths /\ paths=paths /\ paths * 8 <= 140737488355328) (by omega) ?_
 conv=>whnf
 (refine cL ?_;refine dL hsr ?_)
 by_cases k1:n < cum \/ n > cum+l.length
 . rw [if_pos k1]
   by_cases k2:n < cum
   . refine sT ?_
     show HV.tup [_,_,.p (.sl 1 (List.replicate paths.toNat [pi 0])),_]=_
     rw [show List.replicate paths.toNat [pi 0]=(List.replicate paths.toNat (0:Int)).map fun n=>[pi n] by rw [List.map_replicate]]
     rfl
   . refine sN ?_
     refine zan (z:=cum+((l.map Sent.row).length:Int)) (W_fit (by rw [List.length_map];omega) (by rw [List.length_map];omega)) ?_;conv=>whnf
     refine sT ?_
     show HV.tup [_,_,.p (.sl 1 (List.replicate paths.toNat [pi 0])),_]=_
     rw [show List.replicate paths.toNat [pi 0]=(List.replicate paths.toNat (0:Int)).map fun n=>[pi n] by rw [List.map_replicate]]
     rfl
 . rw [if_neg k1]
   refine sN ?_
   refine zan (z:=cum+((l.map Sent.row).length:Int)) (W_fit (by rw [List.length_map];omega) (by rw [List.length_map];omega)) ?_;conv=>whnf
   refine sN ?_
   refine ⟨{ x:List Sent × List Sent × List Sent × List Int × Int // SI l c n paths.toNat cum x },fun | ⟨(a,b,out,come,high),_⟩=>hs 136 [(1,i64 cum),(6,.ptr 6 0),(12,.own 900),(13,i64 n),(14,.own 901),(15,i64 high),(43,sents l),(44,i64 l.length),(45,i64 a.length)] [(6,.live (.cells 61 c.cells)),(900,intB come),(901,sentB out)],fun x=>x.1.2.1.length,⟨([],l,[],List.replicate paths.toNat 0,0),rfl,rfl,rfl,rfl,Int.le_refl _,by dsimp only;simp;omega⟩,?_,?_⟩
   . exact (hle_X [(6,some 6),(900,some 24),(901,none)] (by repeat' (first | exact z0 | refine z1 ?_ | refine ⟨?_,?_⟩ | (exact e21) | exact z2)))
   rintro ⟨⟨a,b,out,come,high⟩,hi⟩
   have h:=hi.split
   dsimp only at h
   cases b with
   | nil =>
    have hz:=zaz h
    obtain ⟨h1,h2,h3,h4,h5,h6⟩:=hi
    dsimp only at h1 h2 h3 h4 h5 h6
    rw [List.append_nil] at h1
    subst h1
    rw [<- h3,<- h4,<- h2]
    have hlen:out.length <= l.length:=by rw [h2,left,List.length_map];exact List.length_filter_le _ _
    conv=>whnf
    refine sN ?_
    refine ⟨{ x:List Sent × List Sent // out=x.1++x.2 },fun | ⟨(a,b),_⟩=>hs 136 [(12,.own 900),(13,i64 n),(15,i64 high),(19,.own 902),(20,.own 903),(99,.own 901),(100,i64 out.length),(101,i64 a.length)] [(900,intB come),(901,sentB out),(902,sentB (a.map (age high))),(903,intB (lost high a))],fun x=>x.1.2.length,⟨([],out),rfl⟩,?_,?_⟩
    . exact (hle_Q [(900,some 900),(901,some 901),(902,none),(903,none)])
    rintro ⟨⟨a,b⟩,h⟩
    dsimp only at h
    cases b with
    | nil =>
     have hz:=zaz h
     rw [List.append_nil] at h
     subst h
     conv=>whnf
     ((refine hif_F ?_;conv=>whnf);try (refine hcut.go ?_;conv=>whnf))
     try rfl
    | cons s b =>
     have hz:=zar h
     have ea:(a++[s]).map (age high)=a.map (age high)++[age high s]:=by simp
     have el:lost high (a++[s])=lost high a++lost high [s]:=by simp [lost]
     have hln:(lost high a).length <= a.length:=by rw [lost,List.length_map];exact List.length_filter_le _ _
     conv=>whnf
     refine sT ?_
     refine sO ?_
     refine zaj h rfl ?_;conv=>whnf
     (try (refine hcut.go ?_;conv=>whnf))
     by_cases c1:s.state=1
     . refine sT ?_
       by_cases c2:s.number < high
       . refine sT ?_
         refine sR ?_
         by_cases c3:W (s.missed+1) >= 3
         . have e1:age high s={ s with missed:=W (s.missed+1),state:=3 }:=by rw [age,if_pos ⟨c1,c2⟩,if_pos c3]
           have e2:lost high [s]=[s.number]:=by simp [lost,c1,c2,c3]
           refine sT ?_
           refine zaa (c:=(((lost high a).map fun n=>[pi n]).length+1) * 8 <= 140737488355328) (by rw [List.length_map];omega) ?_;conv=>whnf
           refine zaa (c:=(((a.map (age high)).map Sent.row).length+1) * 200 <= 140737488355328) om ?_;conv=>whnf
           refine sF ?_
           exact ⟨⟨(a++[s],b),zae h⟩,(hle_X [(900,some 900),(901,some 901),(902,some 130),(903,some 126)] (by repeat' (first | exact z0 | refine z1 ?_ | refine ⟨?_,?_⟩ | ((refine zat (f:=Sent.row) ea ?_;rw [e1];rfl)) | ((rw [el,e2];exact (zcv (f:=fun n=>[pi n]) rfl).symm)) | exact z2))),by simp⟩
         . have e1:age high s={ s with missed:=W (s.missed+1) }:=by rw [age,if_pos ⟨c1,c2⟩,if_neg c3]
           have e2:lost high [s]=[]:=by simp [lost,c1,c2,c3]
           refine sN ?_
           refine zaa (c:=(((a.map (age high)).map Sent.row).length+1) * 200 <= 140737488355328) om ?_;conv=>whnf
           refine sF ?_
           exact ⟨⟨(a++[s],b),zae h⟩,(hle_X [(900,some 900),(901,some 901),(902,some 130),(903,some 903)] (by repeat' (first | exact z0 | refine z1 ?_ | refine ⟨?_,?_⟩ | ((rw [show lost high (a++[s])=lost high a by rw [el,e2,List.append_nil]];rfl)) | ((refine zat (f:=Sent.row) ea ?_;rw [e1];rfl)) | exact z2))),by simp⟩
       . have e1:age high s=s:=by rw [age,if_neg fun h=>c2 h.2]
         have e2:lost high [s]=[]:=by simp [lost,c2]
         refine sN ?_
         refine zaa (c:=(((a.map (age high)).map Sent.row).length+1) * 200 <= 140737488355328) om ?_;conv=>whnf
         refine sF ?_
         exact ⟨⟨(a++[s],b),zae h⟩,(hle_X [(900,some 900),(901,some 901),(902,some 130),(903,some 903)] (by repeat' (first | exact z0 | refine z1 ?_ | refine ⟨?_,?_⟩ | ((rw [show lost high (a++[s])=lost high a by rw [el,e2,List.append_nil]];rfl)) | ((refine zat (f:=Sent.row) ea ?_;rw [e1];rfl)) | exact z2))),by simp⟩
     . have e1:age high s=s:=by rw [age,if_neg fun h=>c1 h.1]
       have e2:lost high [s]=[]:=by simp [lost,c1]
       refine sN ?_
       refine zaa (c:=(((a.map (age high)).map Sent.row).length+1) * 200 <= 140737488355328) om ?_;conv=>whnf
       refine sF ?_
       exact ⟨⟨(a++[s],b),zae h⟩,(hle_X [(900,some 900),(901,some 901),(902,some 130),(903,some 903)] (by repeat' (first | exact z0 | refine z1 ?_ | refine ⟨?_,?_⟩ | ((rw [show lost high (a++[s])=lost high a by rw [el,e2,List.append_nil]];rfl)) | ((refine zat (f:=Sent.row) ea ?_;rw [e1];rfl)) | exact z2))),by simp⟩
   | cons s b =>
    have hz:=zar h
    obtain ⟨hnum,hpa0,hpa1⟩:=hr.at h
    have hnx:=hi.next hnum hc0
    have hhi:=hi.h1
    have hh0:=hi.h0
    have hcl:=hi.come
    have hol:out.length <= a.length:=by have:=hi.out;dsimp only at this;rw [this,left,List.length_map];exact List.length_filter_le _ _
    dsimp only at hhi hh0 hcl
    have hcl:come.length=paths.toNat:=by rw [hcl,zij]
    have hby:=hl.bytes
    rw [h,zfa,zeb] at hby
    have eA:HSlot.live (.row 3 1 ((come.map fun n=>[pi n]).set s.path.toNat [pi (W (come[s.path.toNat]'(by omega)+((s.chunk.data.map bRow).length:Int)))]))=intB (addAt come s.path s.chunk.data.length):=by
     rw [addAt,intB,List.map_set,List.getElem?_eq_getElem (by omega),Option.getD_some,List.length_map]
    conv=>whnf
    refine sT ?_
    refine zaj h rfl ?_;conv=>whnf
    by_cases g:s.number <= n
    . have hk:here c n s=true:=by rw [here];simp [g]
      refine sT ?_
      by_cases q:s.state=1 \/ s.state=3
      . have hcm:comes c n s=true:=by rw [comes,hk,Bool.true_and];rcases q with q | q <;> rw [q] <;> rfl
        rw [if_neg (by omega),come1,if_pos hcm,high1,if_pos hcm,List.append_nil] at hnx
        by_cases q1:s.state=1
        . refine sT ?_
          refine sO ?_
          refine zbj s.path.toNat (by omega) (by omega) ?_;conv=>whnf
          refine sR ?_
          refine sO ?_
          refine zbj s.path.toNat (by omega) (by omega) ?_;conv=>whnf
          refine sD ?_
          refine sN ?_
          refine sF ?_
          exact ⟨⟨_,hnx⟩,(hle_X [(6,some 6),(900,some 900),(901,some 901)] (by repeat' (first | exact z0 | refine z1 ?_ | refine ⟨?_,?_⟩ | (exact (zcv (f:=Sent.row) rfl).symm) | (exact eA) | exact z2))),by simp⟩
        . refine sN ?_
          refine sT ?_
          refine sO ?_
          refine zbj s.path.toNat (by omega) (by omega) ?_;conv=>whnf
          refine sR ?_
          refine sO ?_
          refine zbj s.path.toNat (by omega) (by omega) ?_;conv=>whnf
          refine sD ?_
          refine sN ?_
          refine sF ?_
          exact ⟨⟨_,hnx⟩,(hle_X [(6,some 6),(900,some 900),(901,some 901)] (by repeat' (first | exact z0 | refine z1 ?_ | refine ⟨?_,?_⟩ | (exact (zcv (f:=Sent.row) rfl).symm) | (exact eA) | exact z2))),by simp⟩
      . have hcm:comes c n s=false:=by
         rw [comes,hk,Bool.true_and]
         simp only [not_or] at q
         simp [q.1,q.2]
        rw [if_neg (by omega),come1,if_neg (by rw [hcm];decide),high1,if_neg (by rw [hcm];decide),List.append_nil] at hnx
        have q1:s.state ≠ 1:=fun h=>q (.inl h)
        have q2:s.state ≠ 3:=fun h=>q (.inr h)
        refine sN ?_
        refine sN ?_
        refine sN ?_
        refine sF ?_
        exact ⟨⟨_,hnx⟩,(hle_X [(6,some 6),(900,some 900),(901,some 901)] (by repeat' (first | exact z0 | refine z1 ?_ | refine ⟨?_,?_⟩ | (exact (zcv (f:=Sent.row) rfl).symm) | (exact eA) | exact z2))),by simp⟩
    . refine sN ?_
      refine sR ?_
      (refine cL ?_;refine dL (zyq c.spans _ (by omega)) ?_)
      by_cases hh:has c.spans (W (s.number - n))=true
      . have hk:here c n s=true:=by rw [here,hh];simp
        refine zad hh ?_;conv=>whnf
        (try (refine hcut.go ?_;conv=>whnf))
        by_cases q:s.state=1 \/ s.state=3
        . have hcm:comes c n s=true:=by rw [comes,hk,Bool.true_and];rcases q with q | q <;> rw [q] <;> rfl
          rw [if_pos (by omega),come1,if_pos hcm,high1,if_pos hcm,turn,if_pos hcm] at hnx
          by_cases q1:s.state=1
          . refine sT ?_
            refine sO ?_
            refine zbj s.path.toNat (by omega) (by omega) ?_;conv=>whnf
            refine sR ?_
            refine sO ?_
            refine zbj s.path.toNat (by omega) (by omega) ?_;conv=>whnf
            refine sD ?_
            refine sT ?_
            refine zaa (c:=((out.map Sent.row).length+1) * 200 <= 140737488355328) om ?_;conv=>whnf
            refine sF ?_
            exact ⟨⟨_,hnx⟩,(hle_X [(6,some 6),(900,some 900),(901,some 97)] (by repeat' (first | exact z0 | refine z1 ?_ | refine ⟨?_,?_⟩ | (exact (zcv (f:=Sent.row) rfl).symm) | (exact eA) | exact z2))),by simp⟩
          . refine sN ?_
            refine sT ?_
            refine sO ?_
            refine zbj s.path.toNat (by omega) (by omega) ?_;conv=>whnf
            refine sR ?_
            refine sO ?_
            refine zbj s.path.toNat (by omega) (by omega) ?_;conv=>whnf
            refine sD ?_
            refine sT ?_
            refine zaa (c:=((out.map Sent.row).length+1) * 200 <= 140737488355328) om ?_;conv=>whnf
            refine sF ?_
            exact ⟨⟨_,hnx⟩,(hle_X [(6,some 6),(900,some 900),(901,some 97)] (by repeat' (first | exact z0 | refine z1 ?_ | refine ⟨?_,?_⟩ | (exact (zcv (f:=Sent.row) rfl).symm) | (exact eA) | exact z2))),by simp⟩
        . have hcm:comes c n s=false:=by
           rw [comes,hk,Bool.true_and]
           simp only [not_or] at q
           simp [q.1,q.2]
          rw [if_pos (by omega),come1,if_neg (by rw [hcm];decide),high1,if_neg (by rw [hcm];decide),turn,if_neg (by rw [hcm];decide)] at hnx
          have q1:s.state ≠ 1:=fun h=>q (.inl h)
          have q2:s.state ≠ 3:=fun h=>q (.inr h)
          refine sN ?_
          refine sN ?_
          refine sT ?_
          refine zaa (c:=((out.map Sent.row).length+1) * 200 <= 140737488355328) om ?_;conv=>whnf
          refine sF ?_
          exact ⟨⟨_,hnx⟩,(hle_X [(6,some 6),(900,some 900),(901,some 97)] (by repeat' (first | exact z0 | refine z1 ?_ | refine ⟨?_,?_⟩ | (exact (zcv (f:=Sent.row) rfl).symm) | (exact eA) | exact z2))),by simp⟩
      . have hk:here c n s=false:=by rw [here];simp [hh];omega
        have hcm:comes c n s=false:=by rw [comes,hk];rfl
        rw [if_pos (by omega),come1,if_neg (by rw [hcm];decide),high1,if_neg (by rw [hcm];decide),turn,if_neg (by rw [hcm];decide)] at hnx
        refine zab (by simpa using hh) ?_;conv=>whnf
        (try (refine hcut.go ?_;conv=>whnf))
        refine sT ?_
        refine zaa (c:=((out.map Sent.row).length+1) * 200 <= 140737488355328) om ?_;conv=>whnf
        refine sF ?_
        exact ⟨⟨_,hnx⟩,(hle_X [(6,some 6),(900,some 900),(901,some 97)] (by repeat' (first | exact z0 | refine z1 ?_ | refine ⟨?_,?_⟩ | (exact (zcv (f:=Sent.row) rfl).symm) | exact z2))),by simp⟩
end Sco
end Go.HL
namespace Go.HL
open Go.Proofs
namespace Sco
open Ser
set_option maxHeartbeats 4000000
set_option maxRecDepth 100000
set_option linter.unusedSimpArgs false
def zdm (c:Chunk) (k at':Nat):List Skip -> Nat
 | []=>at'
 | s :: r=>zdm c (k+1) (if zbv c s then k else at') r
def zqv (a b:Skip):Prop:=a.stream=b.stream /\ a.ordered=b.ordered /\ (a.ordered=true \/ a.mid=b.mid)
def U (l:List Skip):Prop:=l.Pairwise fun a b=>¬ zqv a b
theorem zeh {c:Chunk} {s:Skip}:zbv c s=true ↔ s.stream=c.stream /\ s.ordered=c.ordered /\ (c.ordered=true \/ s.mid=c.mid):=by
 simp only [zbv,Bool.and_eq_true,beq_iff_eq,Bool.or_eq_true,and_assoc]
theorem you {c:Chunk} {s t:Skip} (h:zbv c s=true) (k:zbv c t=true):zqv s t:=by
 obtain ⟨h1,h2,h3⟩:=zeh.1 h
 obtain ⟨k1,k2,k3⟩:=zeh.1 k
 refine ⟨h1.trans k1.symm,h2.trans k2.symm,?_⟩
 rcases h3 with h3 | h3
 . exact .inl (h2.trans h3)
 . rcases k3 with k3 | k3
   . exact .inl (h2.trans k3)
   . exact .inr (h3.trans k3.symm)
theorem zkk {c:Chunk}:∀ {l:List Skip} {k a:Nat},(∀ s ∈ l,zbv c s=false) -> zdm c k a l=a
 | [],_,_,_=>rfl
 | s :: r,k,a,h=>by
  rw [zdm,if_neg (by rw [h s (by simp)];decide)];exact zkk fun x hx=>h x (by simp [hx])
theorem yck {c:Chunk}:∀ {a b:List Skip} {k z:Nat},zdm c k z (a++b)=zdm c (k+a.length) (zdm c k z a) b
 | [],b,k,z=>rfl
 | s :: r,b,k,z=>by
  rw [List.cons_append,zdm,yck,zdm];congr 1;simp;omega
theorem yiw {c:Chunk} {l:List Skip} (hu:U l):(zdm c 0 l.length l=l.length /\ skip c l=l++[⟨c.stream,c.mid,c.ordered⟩] /\ U (skip c l)) \/
 ∃ a s b,l=a++s :: b /\ zdm c 0 l.length l=a.length /\ skip c l=a++⟨c.stream,c.mid,c.ordered⟩ :: b /\ U (skip c l):=by
 by_cases hn:∀ s ∈ l,zbv c s=false
 . left
   have h1:=zhq hn []
   rw [List.append_nil] at h1
   have h2:skip c l=l++[⟨c.stream,c.mid,c.ordered⟩]:=h1
   refine ⟨zkk hn,h2,?_⟩
   rw [h2]
   refine List.pairwise_append.2 ⟨hu,List.pairwise_singleton _ _,fun x hx y hy=>?_⟩
   rw [List.mem_singleton.1 hy]
   rintro ⟨e1,e2,e3⟩
   have:=hn x hx
   have h4:zbv c x=true:=zeh.2 ⟨e1,e2,by rcases e3 with e3 | e3;exact .inl (e2.symm.trans e3);exact .inr e3⟩
   rw [h4] at this;cases this
 . right
   obtain ⟨s0,hs0,hm0⟩:∃ s ∈ l,zbv c s=true:=by
    apply Classical.byContradiction
    intro hc
    exact hn fun s hs=>by
     cases hm:zbv c s with
     | false=>rfl
     | true=>exact absurd ⟨s,hs,hm⟩ hc
   have gen:∀ l:List Skip,(∃ s ∈ l,zbv c s=true) -> ∃ a s b,l=a++s :: b /\ zbv c s=true /\ ∀ x ∈ a,zbv c x=false:=by
    intro l
    induction l with
    | nil=>rintro ⟨s,hs,_⟩;simp at hs
    | cons x r ih =>
     rintro ⟨s,hs,hm⟩
     cases hx:zbv c x with
     | true=>exact ⟨[],x,r,rfl,hx,by simp⟩
     | false =>
      have:∃ s ∈ r,zbv c s=true:=by
       rcases List.mem_cons.1 hs with rfl | hs
       . rw [hx] at hm;cases hm
       . exact ⟨s,hs,hm⟩
      obtain ⟨a,t,b,h1,h2,h3⟩:=ih this
      refine ⟨x :: a,t,b,by rw [h1];rfl,h2,fun y hy=>?_⟩
      rcases List.mem_cons.1 hy with rfl | hy
      . exact hx
      . exact h3 y hy
   obtain ⟨a,s,b,rfl,hm,ha⟩:=gen l ⟨s0,hs0,hm0⟩
   obtain ⟨u1,u2,u3⟩:=List.pairwise_append.1 hu
   obtain ⟨u4,u5⟩:=List.pairwise_cons.1 u2
   have hb:∀ x ∈ b,zbv c x=false:=by
    intro x hx
    cases hxm:zbv c x with
    | false=>rfl
    | true=>exact absurd (you hm hxm) (u4 x hx)
   obtain ⟨m1,m2,m3⟩:=zeh.1 hm
   have h2:skip c (a++s :: b)=a++⟨c.stream,c.mid,c.ordered⟩ :: b:=by
    rw [zhq ha,skip,if_pos hm,m1,m2]
   have tr:∀ x:Skip,zqv ⟨c.stream,c.mid,c.ordered⟩ x -> zqv s x:=by
    rintro x ⟨e1,e2,e3⟩
    refine ⟨m1.trans e1,m2.trans e2,?_⟩
    rcases e3 with e3 | e3
    . exact .inl (m2.trans e3)
    . rcases m3 with m3 | m3
      . exact .inl (m2.trans m3)
      . exact .inr (m3.trans e3)
   have sy:∀ x y:Skip,zqv x y -> zqv y x:=fun x y ⟨e1,e2,e3⟩=>⟨e1.symm,e2.symm,by rcases e3 with e3 | e3;exact .inl (e2.symm.trans e3);exact .inr e3.symm⟩
   refine ⟨a,s,b,rfl,?_,h2,?_⟩
   . rw [yck,zkk ha,zdm,if_pos hm,zkk hb];omega
   . rw [h2]
     refine List.pairwise_append.2 ⟨u1,List.pairwise_cons.2 ⟨fun x hx h=>u4 x hx (tr x h),u5⟩,fun x hx y hy=>?_⟩
     rcases List.mem_cons.1 hy with rfl | hy
     . intro h;exact u3 x hx s (by simp) (sy _ _ (tr _ (sy _ _ h)))
     . exact u3 x hx y (by simp [hy])
theorem zhd (l:List Sent) (cum:Int) (hl:l.length < 2 ^ 38):FunOK Tryz.prog 89 [sents l,i64 cum] zac (.tup [i64 (point l cum).1,skips (point l cum).2]) zac:=by
 refine zah mixed Tryz.func89 (by decide) ?_
 generalize hR:point l cum=R
 conv=>whnf
 refine ⟨{ x:List Sent × List Sent × Int × List Skip // l=x.1++x.2.1 /\ x.2.2.2.length <= 8 /\ zde x.2.2.1 x.2.2.2 x.2.1=R /\ U x.2.2.2 },fun | ⟨(a,b,z,sk),_⟩=>hs 107 [(1,i64 z),(6,.own 900),(14,sents l),(15,i64 l.length),(16,i64 a.length)] [(900,skipB sk)],fun x=>x.1.2.1.length,⟨([],l,cum,[]),rfl,by simp,hR,List.Pairwise.nil⟩,?_,?_⟩
 . exact (hle_Q [(900,none)])
 rintro ⟨⟨a,b,z,sk⟩,h,hsk,hi,hu⟩
 dsimp only at h hsk hi hu
 cases b with
 | nil =>
  have hz:=zaz h
  simp only [zde] at hi
  subst hi
  conv=>whnf
  ((refine hif_F ?_;conv=>whnf);try (refine hcut.go ?_;conv=>whnf))
  try rfl
 | cons s b =>
  have hz:=zar h
  simp only [zde] at hi
  have fs:=yiw (c:=s.chunk) hu
  have sl:=zst s.chunk sk
  conv=>whnf
  refine sT ?_
  refine zaj h rfl ?_;conv=>whnf
  by_cases c2:s.state=4
  . refine sN ?_
    refine sR ?_
    by_cases c1:s.number=W (z+1)
    . rw [if_neg (by rintro (h1 | h1);exact h1 c1;exact h1.1 c2),if_pos c2] at hi
      refine sN ?_
      refine sT ?_
      generalize hA:zdm s.chunk 0 sk.length sk=A at fs
      refine ⟨{ x:List Skip × List Skip × Nat // sk=x.1++x.2.1 /\ zdm s.chunk x.1.length x.2.2 x.2.1=A },fun | ⟨(c,d,t),_⟩=>hs 107 [(1,i64 z),(6,.own 900),(9,.ptr 9 0),(10,i64 t),(14,sents l),(15,i64 l.length),(16,i64 a.length),(44,.own 900),(45,i64 sk.length),(46,i64 c.length)] [(9,.live (.cells 61 s.chunk.cells)),(900,skipB sk)],fun x=>x.1.2.1.length,⟨([],sk,sk.length),rfl,hA⟩,?_,?_⟩
      . exact (hle_Q [(9,some 9),(900,some 900)])
      rintro ⟨⟨c,d,t⟩,hcd,hlast⟩
      dsimp only at hcd hlast
      cases d with
      | nil =>
       have hz2:=zaz hcd
       simp only [zdm] at hlast
       subst hlast
       conv=>whnf
       refine sN ?_
       rcases fs with ⟨f1,f2,f3⟩ | ⟨p,y,q,f0,f1,f2,f3⟩
       . have f4:(skip s.chunk sk).length=sk.length+1:=by rw [f2];simp
         by_cases c8:sk.length=8
         . rw [if_pos (by omega)] at hi
           subst hi
           ((refine hif_T ?_;conv=>whnf);try (refine hcut.go ?_;conv=>whnf))
           try rfl
         . rw [if_neg (by omega)] at hi
           refine sN ?_
           refine zaa (c:=(([]:List (List PV)).length+(sk.map Skip.row).length) * 24 <= 140737488355328) om ?_;conv=>whnf
           (try (refine hcut.go ?_;conv=>whnf))
           refine sT ?_
           refine zaa (c:=((([]:List (List PV))++sk.map Skip.row).length+1) * 24 <= 140737488355328) (by simp;omega) ?_;conv=>whnf
           refine sO ?_
           refine zbq (r:=[pi 0,pi 0,pb false]) ?_ ?_ ?_
           . omega
           . rw [f1]
             show ([]++sk.map Skip.row++[[pi 0,pi 0,pb false]])[_]?=_
             rw [List.nil_append,List.getElem?_append_right (by simp)];simp
           conv=>whnf
           have e1:HSlot.live (.row 180 3 ((sk.map Skip.row++[[pi 0,pi 0,pb false]]).set t [pi s.chunk.stream,pi s.chunk.mid,pb s.chunk.ordered]))=skipB (skip s.chunk sk):=by
            rw [f2,f1]
            have:=(zdd (t:=180) (n:=3) (f:=Skip.row) (a:=sk) (b:=[]) (x:=⟨0,0,false⟩) (y:=⟨s.chunk.stream,s.chunk.mid,s.chunk.ordered⟩) (k:=sk.length) (r:=[pi s.chunk.stream,pi s.chunk.mid,pb s.chunk.ordered]) rfl rfl).symm
            rw [List.map_append] at this
            exact this
           refine sR ?_
           refine sF ?_
           exact ⟨⟨(a++[s],b,W (z+1),skip s.chunk sk),zae h,by dsimp only;omega,by rw [<- c1];exact hi,f3⟩,(hle_X [(900,some 90)] (by repeat' (first | exact z0 | refine z1 ?_ | refine ⟨?_,?_⟩ | (exact e1) | exact z2))),by simp⟩
       . have f4:(skip s.chunk sk).length=sk.length:=by rw [f2,f0];simp
         have f5:sk.length=p.length+q.length+1:=by rw [f0];simp;omega
         rw [if_neg (by omega)] at hi
         refine sN ?_
         refine zaa (c:=(([]:List (List PV)).length+(sk.map Skip.row).length) * 24 <= 140737488355328) om ?_;conv=>whnf
         (try (refine hcut.go ?_;conv=>whnf))
         refine sN ?_
         refine sO ?_
         refine zaj (f:=Skip.row) (l:=sk) (a:=p) (b:=q) (s:=y) f0 (by rw [f1];simp) ?_;conv=>whnf
         have e1:HSlot.live (.row 180 3 ((sk.map Skip.row).set t [pi s.chunk.stream,pi s.chunk.mid,pb s.chunk.ordered]))=skipB (skip s.chunk sk):=by
          rw [f2,f0,f1]
          exact (zdd (f:=Skip.row) (a:=p) (b:=q) (x:=y) (y:=⟨s.chunk.stream,s.chunk.mid,s.chunk.ordered⟩) rfl rfl).symm
         refine sR ?_
         refine sF ?_
         exact ⟨⟨(a++[s],b,W (z+1),skip s.chunk sk),zae h,by dsimp only;omega,by rw [<- c1];exact hi,f3⟩,(hle_X [(900,some 82)] (by repeat' (first | exact z0 | refine z1 ?_ | refine ⟨?_,?_⟩ | (exact e1) | exact z2))),by simp⟩
      | cons x d =>
       have hz2:=zar hcd
       simp only [zdm] at hlast
       conv=>whnf
       refine sT ?_
       refine sO ?_
       refine zaj hcd rfl ?_;conv=>whnf
       refine zaf (fun k1=>?_) (fun k1=>?_)
       . conv=>whnf
         refine zaf (fun k2=>?_) (fun k2=>?_)
         . conv=>whnf
           have e2:x.ordered=s.chunk.ordered:=by simpa using k2
           refine zaf (fun k3=>?_) (fun k3=>?_)
           . have hm:zbv s.chunk x=true:=zeh.2 ⟨by simpa using k1,e2,.inl (by rw [<- e2];exact k3)⟩
             rw [if_pos hm] at hlast
             conv=>whnf
             refine sF ?_
             exact ⟨⟨(c++[x],d,c.length),zae hcd,by simpa using hlast⟩,(hle_Q [(9,some 9),(900,some 900)]),by simp⟩
           . conv=>whnf
             refine zaf (fun k4=>?_) (fun k4=>?_)
             . have hm:zbv s.chunk x=true:=zeh.2 ⟨by simpa using k1,e2,.inr (by simpa using k4)⟩
               rw [if_pos hm] at hlast
               conv=>whnf
               refine sF ?_
               exact ⟨⟨(c++[x],d,c.length),zae hcd,by simpa using hlast⟩,(hle_Q [(9,some 9),(900,some 900)]),by simp⟩
             . have hm:¬ zbv s.chunk x=true:=by
                intro h;obtain ⟨_,_,h3⟩:=zeh.1 h
                rcases h3 with h3 | h3
                . rw [e2,h3] at k3;cases k3
                . simp [h3] at k4
               rw [if_neg hm] at hlast
               conv=>whnf
               refine sF ?_
               exact ⟨⟨(c++[x],d,t),zae hcd,by simpa using hlast⟩,(hle_Q [(9,some 9),(900,some 900)]),by simp⟩
         . have hm:¬ zbv s.chunk x=true:=by
            intro h;obtain ⟨_,h3,_⟩:=zeh.1 h;simp [h3] at k2
           rw [if_neg hm] at hlast
           conv=>whnf
           refine sF ?_
           exact ⟨⟨(c++[x],d,t),zae hcd,by simpa using hlast⟩,(hle_Q [(9,some 9),(900,some 900)]),by simp⟩
       . have hm:¬ zbv s.chunk x=true:=by
          intro h;obtain ⟨h3,_,_⟩:=zeh.1 h;simp [h3] at k1
         rw [if_neg hm] at hlast
         conv=>whnf
         refine sF ?_
         exact ⟨⟨(c++[x],d,t),zae hcd,by simpa using hlast⟩,(hle_Q [(9,some 9),(900,some 900)]),by simp⟩
    . rw [if_pos (.inl c1)] at hi
      subst hi
      ((refine hif_T ?_;conv=>whnf);try (refine hcut.go ?_;conv=>whnf))
      try rfl
  . refine sT ?_
    by_cases c3:s.state=2
    . refine sN ?_
      refine sR ?_
      by_cases c1:s.number=W (z+1)
      . rw [if_neg (by rintro (h1 | h1);exact h1 c1;exact h1.2 c3),if_neg c2] at hi
        refine sN ?_
        refine sN ?_
        refine sR ?_
        refine sF ?_
        exact ⟨⟨(a++[s],b,W (z+1),sk),zae h,hsk,by rw [<- c1];exact hi,hu⟩,(hle_Q [(900,some 900)]),by simp⟩
      . rw [if_pos (.inl c1)] at hi
        subst hi
        ((refine hif_T ?_;conv=>whnf);try (refine hcut.go ?_;conv=>whnf))
        try rfl
    . rw [if_pos (.inr ⟨c2,c3⟩)] at hi
      subst hi
      ((refine hif_T ?_;conv=>whnf);try (refine hcut.go ?_;conv=>whnf))
      try rfl
end Sco
end Go.HL
namespace Go.HL
open Go.Proofs
namespace Snd
open Ser
set_option maxHeartbeats 8000000
set_option maxRecDepth 100000
set_option linter.unusedSimpArgs false
abbrev scS (s:Sender):HSlot:=.live (.cells 32 (sndC s (Sch.qs s.queue) (ints s.sched.had) (Sco.sents s.out) (pths s.paths) (ints s.mids) (ints s.fates)))
abbrev sc0:HSlot:=.live (.cells 32 zeroS)
theorem ziy (s:Sender) (ho:Sco.Sized s.out) (hp:s.paths.length < 2 ^ 22) :
 FunOK Tryz.prog 86 [s.hv] zac (.agg (sndC (flights s) (Sch.qs (flights s).queue) (ints (flights s).sched.had) (Sco.sents (flights s).out) (.own 0) (ints (flights s).mids) (ints (flights s).fates))) (lk .free [(0,rowW (flights s).paths)]):=by
 show FunOK Tryz.prog 86 [s.hv] zac (.agg (sndC s (Sch.qs s.queue) (ints s.sched.had) (Sco.sents s.out) (.own 0) (ints s.mids) (ints s.fates))) (lk .free [(0,rowW (flights s).paths)])
 have hF:(flights s).paths=s.paths.mapIdx fun i p=>flP s.out i p:=rfl
 generalize (flights s).paths=F at hF ⊢
 refine zal mixed Tryz.func86 (by decide) [] (fun _=>.inl rfl) ?_
 conv=>whnf
 refine ⟨{ x:List Path × List Path // s.paths=x.1++x.2 },fun | ⟨(A,B),_⟩=>hs 27 [(1,.ptr 1 0),(2,.ptr 2 0),(3,.own 900),(7,pths s.paths),(8,i64 s.paths.length),(9,i64 A.length)] [(1,scS s),(2,sc0),(900,rowW (A.mapIdx fun i p=>flP s.out i p))],fun x=>x.1.2.length,⟨([],s.paths),rfl⟩,?_,?_⟩
 . exact (hle_Q [(1,some 1),(2,some 2),(900,none)])
 rintro ⟨⟨A,B⟩,h⟩
 dsimp only at h
 conv=>whnf
 cases B with
 | cons p B =>
  have hz:=zar h
  refine sT ?_
  refine zaj h rfl ?_;conv=>whnf
  (refine cL ?_;refine dL (Sco.zwq s.out A.length ho) ?_)
  refine zaa (c:=(((A.mapIdx fun i p=>flP s.out i p).map Path.row).length+1) * 56 <= 140737488355328) (by simp;omega) ?_;conv=>whnf
  refine sF ?_
  refine ⟨⟨(A++[p],B),zae h⟩,(hle_X [(1,some 1),(2,some 2),(900,some 22)] (by repeat' (first | exact z0 | refine z1 ?_ | refine ⟨?_,?_⟩ | ((exact zat (f:=Path.row) List.mapIdx_concat rfl)) | exact z2))),by simp⟩
 | nil =>
  have hz:=zaz h
  rw [List.append_nil] at h
  refine sN ?_
  refine zau [(0,some 900)] rfl rfl trivial rfl rfl ⟨⟨rfl,.inl ⟨900,rfl,?_⟩⟩,trivial⟩
  exact zao (by rw [hF,h])
theorem ztr (s:Sender) (ho:Sco.Sized s.out) (hp:s.paths.length < 2 ^ 22):FunOK Tryz.prog 86 [s.hv] zac (flights s).hv zac:=by
 refine zch Tryz.func86 (ziy s ho hp) ?_
 conv=>whnf
 rfl
theorem zjj {N:Nat} {p:Pump} {i path:Nat} {x:Sent} {w:Path} (hS:SI N (fly p i path).s) (hx:p.s.out[i]?=some x) (hw:p.s.paths[path]?=some w) :
 flights { p.s with out:=p.s.out.set i (flyX x path) }=(fly p i path).s:=by
 have hF:=hS.flight
 have e:(fly p i path).s={ p.s with out:=p.s.out.set i (flyX x path),paths:=p.s.paths.set path { w with flight:=W (w.flight+x.chunk.data.length) } }:=by
  simp only [fly,hx,setAt,hw]
 rw [e] at hF ⊢
 dsimp only at hF
 have hl:=(List.getElem?_eq_some_iff.1 hw).1
 unfold flights
 dsimp only
 congr 1
 apply List.ext_getElem?
 intro j
 rw [List.getElem?_mapIdx]
 by_cases hj:j=path
 . subst hj
   have h2:=hF j { w with flight:=W (w.flight+x.chunk.data.length) } (List.getElem?_set_self hl)
   rw [List.getElem?_set_self hl,hw]
   dsimp only at h2
   show some (flP _ j w)=_
   unfold flP
   rw [h2]
 . rw [List.getElem?_set_ne (Ne.symm hj)]
   cases hp:p.s.paths[j]? with
   | none=>rfl
   | some a =>
    have h2:=hF j a (by rw [List.getElem?_set_ne (Ne.symm hj)];exact hp)
    show some (flP _ j a)=_
    unfold flP
    rw [<- h2]
theorem zfs (s:Sender) (ho:Sco.Sized s.out) (hp:s.paths.length < 2 ^ 22) {rows:List (List PV)} (hr:rows=s.out.map Sent.row) :
 FunOK Tryz.prog 86 [.agg (sndC s (Sch.qs s.queue) (ints s.sched.had) (.p (.sl 20 rows)) (pths s.paths) (ints s.mids) (ints s.fates))] zac (flights s).hv zac:=by
 subst hr;exact ztr s ho hp
end Snd
end Go.HL
namespace Go.HL
open Go.Proofs
namespace Snd
open Ser
set_option maxHeartbeats 8000000
set_option maxRecDepth 100000
set_option linter.unusedSimpArgs false
theorem zwr {id:Int} {s:Sender} {m:Queued} (h:¬ (m.id=id /\ m.parts > 0)):end1 id s m=s:=if_neg h
theorem yov {id:Int} {s:Sender} {m:Queued} (h:m.id=id /\ m.parts > 0):end1 id s m={ s with out:=s.out++[endOf s.next m],next:=W (s.next+1) }:=if_pos h
abbrev rgC (s u:Sender) (_:Nat) (q o:HV):HSlot:=.live (.cells 32 (sndC { s with next:=u.next } q (ints s.sched.had) o (pths s.paths) (ints s.mids) (.own 901)))
theorem zqw {N:Nat} (s:Sender) (id:Nat) (hS:SI N s) (hid:id < s.fates.length):FunOK Tryz.prog 99 [s.hv,i64 id] zac (giveS s id).hv zac:=by
 have hg:=(zzf hS hid).fit
 obtain ⟨h1,h2,h3,h4,h5,h6,h7⟩:=hS.fit
 have ho1:=h3.len
 have hgo:=zmz s id
 have hk:=zim id s.queue { s with fates:=s.fates.set id 3 }
 have hso:=(zsz id s.queue { s with fates:=s.fates.set id 3 }).1
 generalize hU:s.queue.foldl (end1 id) { s with fates:=s.fates.set id 3 }=U at hk hso
 have hG:(flights { U with queue:=s.queue.filter fun m=>decide (m.id ≠ (id:Int)),sched:=if s.sched.hand=id then { s.sched with hand:=-1 } else s.sched,out:=U.out.map (Sco.give id),forward:=true })=giveS s id:=by rw [<- hU];rfl
 rw [hU] at hgo
 generalize giveS s id=G at hG hg hgo ⊢
 obtain ⟨f0,hf0⟩:∃ f0,s.fates[id]?=some f0:=⟨_,List.getElem?_eq_getElem hid⟩
 refine zah mixed Tryz.func99 (by decide) ?_
 conv=>whnf
 refine zaa (c:=(([]:List (List PV)).length+(s.fates.map fun n=>[pi n]).length) * 8 <= 140737488355328) (by simp;omega) ?_;conv=>whnf
 refine sOm ?_
 refine zai (l:=s.fates) hf0 rfl ?_;conv=>whnf
 refine zaa (c:=(([]:List (List PV)).length+(s.out.map Sent.row).length) * 200 <= 140737488355328) (by simp;omega) ?_;conv=>whnf
 refine ⟨{ x:(List Queued × List Queued) × Sender // s.queue=x.1.1++x.1.2 /\ x.1.1.foldl (end1 id) { s with fates:=s.fates.set id 3 }=x.2 /\ x.2.out.length <= s.out.length+x.1.1.length },
  fun | ⟨((A,B),u),_⟩=>hs 108 [(1,i64 id),(2,.ptr 2 0),(4,.ptr 4 0),(6,.own 900),(7,.own 902),(25,Sch.qs s.queue),(26,i64 s.queue.length),(27,i64 A.length)] [(2,rgC s u id (Sch.qs s.queue) (Sco.sents s.out)),(4,sc0),(900,rowQ (A.filter fun m=>decide (m.id ≠ (id:Int)))),(901,rowT (s.fates.set id 3)),(902,rowX u.out)],fun x=>x.1.1.2.length,⟨(([],s.queue),{ s with fates:=s.fates.set id 3 }),rfl,rfl,by simp⟩,?_,?_⟩
 . exact (hle_X [(2,some 2),(4,some 4),(900,none),(901,some 14),(902,some 23)] (by repeat' (first | exact z0 | refine z1 ?_ | refine ⟨?_,?_⟩ | ((exact zao (by simp [List.map_set]))) | exact z2)))
 rintro ⟨⟨⟨A,B⟩,u⟩,h,hu,hl⟩
 dsimp only at h hu hl
 have hql:s.queue.length=A.length+B.length:=by rw [h];simp
 conv=>whnf
 cases B with
 | cons m B =>
  have hz:=zar h
  have hun:(A++[m]).foldl (end1 id) { s with fates:=s.fates.set id 3 }=end1 id u m:=by rw [List.foldl_append,hu];rfl
  have hAl:(A++[m]).length=A.length+1:=by simp
  refine sT ?_
  refine zaj h rfl ?_;conv=>whnf
  by_cases c1:m.id=(id:Int)
  case neg =>
   have hsk:end1 id u m=u:=zwr fun h=>c1 h.1
   have hfl:(A++[m]).filter (fun m=>decide (m.id ≠ (id:Int)))=A.filter (fun m=>decide (m.id ≠ (id:Int)))++[m]:=by rw [List.filter_append];simp [c1]
   rw [hsk] at hun
   refine zad (by simpa using c1) ?_;conv=>whnf
   have hfa:(A.filter fun m=>decide (m.id ≠ (id:Int))).length <= A.length:=List.length_filter_le _ _
   refine zaa (c:=(((A.filter fun m=>decide (m.id ≠ (id:Int))).map Queued.row).length+1) * 96 <= 140737488355328) (by rw [List.length_map];omega) ?_;conv=>whnf
   refine sF ?_
   exact ⟨⟨((A++[m],B),u),zae h,hun,by dsimp only;omega⟩,(hle_X [(2,some 2),(4,some 4),(900,some 38),(901,some 901),(902,some 902)] (by repeat' (first | exact z0 | refine z1 ?_ | refine ⟨?_,?_⟩ | ((exact zat (f:=Queued.row) hfl rfl)) | exact z2))),by simp⟩
  have hfl:(A++[m]).filter (fun m=>decide (m.id ≠ (id:Int)))=A.filter (fun m=>decide (m.id ≠ (id:Int))):=by rw [List.filter_append];simp [c1]
  refine zab (by simpa using c1) ?_;conv=>whnf
  by_cases c2:m.parts > 0
  case neg =>
   have hsk:end1 id u m=u:=zwr fun h=>c2 h.2
   rw [hsk] at hun
   refine zab (by simpa using c2) ?_;conv=>whnf
   (try (refine hcut.go ?_;conv=>whnf))
   refine sF ?_
   exact ⟨⟨((A++[m],B),u),zae h,hun,by dsimp only;omega⟩,(hle_X ((2,some 2) :: ((4,some 4) :: (pJ3 []))) (by repeat' (first | exact z0 | refine z1 ?_ | refine ⟨?_,?_⟩ | ((rw [hfl])) | exact z2))),by simp⟩
  have hgo1:=yov (s:=u) ⟨c1,c2⟩
  rw [hgo1] at hun
  refine zad (by simpa using c2) ?_;conv=>whnf
  (refine cL ?_;refine dL (zbr _) ?_)
  (refine cL ?_;refine dL (zbr _) ?_)
  refine zaa (c:=((u.out.map Sent.row).length+1) * 200 <= 140737488355328) (by rw [List.length_map];omega) ?_;conv=>whnf
  refine sD ?_
  refine sR ?_
  refine sF ?_
  exact ⟨⟨((A++[m],B),{ u with out:=u.out++[endOf u.next m],next:=W (u.next+1) }),zae h,hun,by simp;omega⟩,(hle_X [(2,some 2),(4,some 4),(900,some 900),(901,some 901),(902,some 63)] (by repeat' (first | exact z0 | refine z1 ?_ | refine ⟨?_,?_⟩ | ((rw [hfl])) | ((exact zat (f:=Sent.row) rfl (by rw [<- c1];rfl))) | exact z2))),by simp⟩
 | nil =>
 have hz:=zaz h
 rw [List.append_nil] at h
 subst h
 rw [hU] at hu
 subst hu
 refine sN ?_
 refine ⟨{ x:List Sent × List Sent // U.out=x.1++x.2 },
  fun | ⟨(a,b),_⟩=>hs 108 [(1,i64 id),(2,.ptr 2 0),(4,.ptr 4 0),(6,.own 900),(7,.own 902),(70,i64 U.out.length),(71,i64 a.length)] [(2,rgC s U id (Sch.qs s.queue) (Sco.sents s.out)),(4,sc0),(900,rowQ (s.queue.filter fun m=>decide (m.id ≠ (id:Int)))),(901,rowT (s.fates.set id 3)),(902,rowX (a.map (Sco.give id)++b))],fun x=>x.1.2.length,⟨([],U.out),rfl⟩,?_,?_⟩
 . exact (hle_Q ((2,some 2) :: ((4,some 4) :: (pJ3 []))))
 rintro ⟨⟨a,b⟩,h'⟩
 dsimp only at h'
 conv=>whnf
 cases b with
 | cons y b =>
  have hz':=zar h'
  have hm:a.length=(a.map (Sco.give id)).length:=by simp
  have e0:(a++[y]).map (Sco.give id)++b=a.map (Sco.give id)++Sco.give id y :: b:=by simp
  refine sT ?_
  refine sO ?_
  refine zaj (a:=a.map (Sco.give id)) (b:=b) (s:=y) rfl (by simp) ?_;conv=>whnf
  by_cases d1:y.id=(id:Int)
  case neg =>
   have e1:Sco.give id y=y:=if_neg fun h=>d1 h.1
   rw [show (y.id == (id:Int))=false from beq_eq_false_iff_ne.2 d1]
   conv=>whnf
   (try (refine hcut.go ?_;conv=>whnf))
   refine sF ?_
   exact ⟨⟨(a++[y],b),zae h'⟩,(hle_X ((2,some 2) :: ((4,some 4) :: (pJ3 []))) (by repeat' (first | exact z0 | refine z1 ?_ | refine ⟨?_,?_⟩ | ((rw [e0,e1])) | exact z2))),by simp⟩
  rw [show (y.id == (id:Int))=true from beq_iff_eq.2 d1]
  conv=>whnf
  refine sO ?_
  refine zaj (a:=a.map (Sco.give id)) (b:=b) (s:=y) rfl (by simp) ?_;conv=>whnf
  by_cases d2:y.state=2
  case pos =>
   have e1:Sco.give id y=y:=if_neg fun h=>h.2 d2
   refine zab (by simpa using d2) ?_;conv=>whnf
   (try (refine hcut.go ?_;conv=>whnf))
   refine sF ?_
   exact ⟨⟨(a++[y],b),zae h'⟩,(hle_X ((2,some 2) :: ((4,some 4) :: (pJ3 []))) (by repeat' (first | exact z0 | refine z1 ?_ | refine ⟨?_,?_⟩ | ((rw [e0,e1])) | exact z2))),by simp⟩
  have e1:Sco.give id y={ y with state:=4 }:=if_pos ⟨d1,d2⟩
  refine zad (by simpa using d2) ?_;conv=>whnf
  refine sO ?_
  refine zaj (a:=a.map (Sco.give id)) (b:=b) (s:=y) rfl (by simp) ?_;conv=>whnf
  refine sF ?_
  exact ⟨⟨(a++[y],b),zae h'⟩,(hle_X ((2,some 2) :: ((4,some 4) :: (pJ3 []))) (by repeat' (first | exact z0 | refine z1 ?_ | refine ⟨?_,?_⟩ | ((rw [e0];exact (zdd (by simp) (by rw [e1];rfl)).symm)) | exact z2))),by simp⟩
 | nil =>
 have hz':=zaz h'
 rw [List.append_nil] at h'
 subst h'
 have hsz:=hgo ▸ hg.out
 have hV:flights { s with fates:=s.fates.set id 3,next:=U.next,queue:=s.queue.filter fun m=>decide (m.id ≠ (id:Int)),sched:=if s.sched.hand=id then { s.sched with hand:=-1 } else s.sched,out:=U.out.map (Sco.give id),forward:=true }=G:=by
  rw [<- hG];conv=>rhs;rw [hk]
 have hp:=zfs (rows:=(U.out.map (Sco.give id)++[]).map Sent.row) { s with fates:=s.fates.set id 3,next:=U.next,queue:=s.queue.filter fun m=>decide (m.id ≠ (id:Int)),sched:=if s.sched.hand=id then { s.sched with hand:=-1 } else s.sched,out:=U.out.map (Sco.give id),forward:=true } hsz h4 (by rw [List.append_nil])
 rw [hV] at hp
 refine sN ?_
 by_cases c3:s.sched.hand=(id:Int)
 case pos =>
  rw [if_pos c3] at hp
  rw [show (s.sched.hand == (id:Int))=true from beq_iff_eq.2 c3];conv=>whnf
  (try (refine hcut.go ?_;conv=>whnf))
  ((refine zcf ?_;(conv=>whnf);refine ⟨_,hp,rfl,?_⟩;conv=>whnf);try (refine hcut.go ?_;conv=>whnf))
  try rfl
 case neg =>
  rw [if_neg c3] at hp
  rw [show (s.sched.hand == (id:Int))=false from beq_eq_false_iff_ne.2 c3];conv=>whnf
  (try (refine hcut.go ?_;conv=>whnf))
  ((refine zcf ?_;(conv=>whnf);refine ⟨_,hp,rfl,?_⟩;conv=>whnf);try (refine hcut.go ?_;conv=>whnf))
  try rfl
end Snd
end Go.HL
namespace Go.HL
open Go.Proofs
namespace Snd
open Ser
set_option maxHeartbeats 8000000
set_option maxRecDepth 100000
set_option linter.unusedSimpArgs false
theorem zts (out:List Sent) (cum:Int) (hl:out.length < 2 ^ 38) {rows:List (List PV)} (hr:rows=out.map Sent.row) :
 FunOK Tryz.prog 89 [.p (.sl 20 rows),i64 cum] zac (.tup [i64 (Sco.point out cum).1,Sco.skips (Sco.point out cum).2]) zac:=by
 subst hr;exact Sco.zhd out cum hl
abbrev tkC (s t:Sender):HSlot:=.live (.cells 32 (sndC { s with clock:=W (s.clock+1),forward:=t.forward } (Sch.qs s.queue) (ints s.sched.had) (Sco.sents t.out) (pths s.paths) (ints s.mids) (ints s.fates)))
abbrev tkR (s:Sender) (f:Bool) (r:List (List PV)):HSlot:=.live (.cells 32 (sndC { s with clock:=W (s.clock+1),forward:=f } (Sch.qs s.queue) (ints s.sched.had) (.p (.sl 20 r)) (pths s.paths) (ints s.mids) (ints s.fates)))
theorem yix {i:Int} {y:Sent} (h:¬ (y.state=1 /\ y.path=i)):Sco.late i y=y:=if_neg h
theorem ymc {i:Int} {y:Sent} (h:y.state=1 /\ y.path=i):Sco.late i y={ y with state:=3 }:=if_pos h
theorem zym {α:Type} {C B:List α} {p q:α} {i:Nat} (h:C.length=i):(C++p :: B).set i q=C++q :: B:=by
 subst h;simp
theorem zqx {N:Nat} (s:Sender) (hS:SI N s):FunOK Tryz.prog 37 [s.hv] zac (tick s).hv zac:=by
 obtain ⟨h1,h2,h3,h4,h5,h6,h7⟩:=hS.fit
 have hT:(List.range s.paths.length).foldl (late1 s.config.part) { s with clock:=W (s.clock+1) }=tick s:=rfl
 generalize tick s=T at hT ⊢
 refine zah mixed Tryz.func37 (by decide) ?_
 conv=>whnf
 refine sR ?_
 refine ⟨{ x:(List Path × List Path) × Sender × List Path // s.paths=x.1.1++x.1.2 /\ (List.range x.1.1.length).foldl (late1 s.config.part) { s with clock:=W (s.clock+1) }=x.2.1 /\ x.2.1={ s with clock:=W (s.clock+1),out:=x.2.1.out,paths:=x.2.2++x.1.2,forward:=x.2.1.forward } /\ Sco.Sized x.2.1.out /\ x.2.2.length=x.1.1.length },
  fun | ⟨((A,B),t,C),_⟩=>hs 89 [(1,.ptr 1 0),(2,.ptr 2 0),(3,.own 900),(15,pths s.paths),(16,i64 s.paths.length),(17,i64 A.length)] [(1,tkC s t),(2,sc0),(900,rowW C)],fun x=>x.1.1.2.length,⟨(([],s.paths),{ s with clock:=W (s.clock+1) },[]),rfl,rfl,rfl,h3,rfl⟩,?_,?_⟩
 . exact (hle_Q [(1,some 1),(2,some 2),(900,none)])
 rintro ⟨⟨⟨A,B⟩,t,C⟩,h,ht,hk,hz3,hC⟩
 dsimp only at h ht hk hz3 hC
 have hql:s.paths.length=A.length+B.length:=by rw [h];simp
 refine zbk fun Q hQ=>?_
 conv=>whnf
 cases B with
 | nil =>
  have hz:=zaz h
  rw [List.append_nil] at h hk
  subst h
  rw [hT] at ht
  subst ht
  refine sN ?_
  refine hQ _ _ ?_;conv=>whnf
  rw [hk]
  try rfl
 | cons p B =>
 have hz:=zar h
 have hp:t.paths[A.length]?=some p:=by rw [hk];simp [<- hC]
 have hst:=zfl (late1 s.config.part) { s with clock:=W (s.clock+1) } A.length
 rw [ht] at hst
 have hAl:(A++[p]).length=A.length+1:=by simp
 have hcl:t.clock=W (s.clock+1):=by rw [hk]
 have hcu:t.cum=s.cum:=by rw [hk]
 have hz1:=hz3.len
 refine sT ?_
 refine zaj h rfl ?_;conv=>whnf
 (try (refine hcut.go ?_;conv=>whnf))
 by_cases c1:p.alarm=0
 case pos =>
  rw [zio hp (.inl c1)] at hst
  refine zab (by simp [c1]) ?_;conv=>whnf
  (try (refine hcut.go ?_;conv=>whnf))
  refine zaa (c:=((C.map Path.row).length+1) * 56 <= 140737488355328) (by rw [List.length_map];omega) ?_;conv=>whnf
  refine sF ?_
  refine hQ _ _ ?_;conv=>whnf
  exact ⟨⟨((A++[p],B),t,C++[p]),zae h,by rw [hAl];exact hst,by rw [List.append_assoc];exact hk,hz3,by simp [hC]⟩,(hle_X [(1,some 1),(2,some 2),(900,some 84)] (by repeat' (first | exact z0 | refine z1 ?_ | refine ⟨?_,?_⟩ | ((exact zat (f:=Path.row) rfl rfl)) | exact z2))),by simp⟩
 refine zad (bne_iff_ne.2 c1) ?_;conv=>whnf
 by_cases c2:W (s.clock+1) < p.alarm
 case pos =>
  rw [zio hp (.inr (by rw [hcl];exact c2))] at hst
  refine zab (by simpa using c2) ?_;conv=>whnf
  (try (refine hcut.go ?_;conv=>whnf))
  refine zaa (c:=((C.map Path.row).length+1) * 56 <= 140737488355328) (by rw [List.length_map];omega) ?_;conv=>whnf
  refine sF ?_
  refine hQ _ _ ?_;conv=>whnf
  exact ⟨⟨((A++[p],B),t,C++[p]),zae h,by rw [hAl];exact hst,by rw [List.append_assoc];exact hk,hz3,by simp [hC]⟩,(hle_X [(1,some 1),(2,some 2),(900,some 84)] (by repeat' (first | exact z0 | refine z1 ?_ | refine ⟨?_,?_⟩ | ((exact zat (f:=Path.row) rfl rfl)) | exact z2))),by simp⟩
 have hgo:=ycc (part:=s.config.part) hp (fun h=>h.elim c1 (by rw [hcl];exact c2))
 have hsz:=zqr A.length hz3
 have hset:t.paths.set A.length (Paths.late p s.config.part)=(C++[Paths.late p s.config.part])++B:=by
  rw [hk];show (C++p :: B).set _ _=_;rw [zym hC];simp
 refine zad (by simpa using c2) ?_;conv=>whnf
 refine zaa (c:=(([]:List (List PV)).length+(t.out.map Sent.row).length) * 200 <= 140737488355328) (by simp;omega) ?_;conv=>whnf
 refine ⟨{ x:List Sent × List Sent // t.out=x.1++x.2 },fun | ⟨(a,b),_⟩=>hs 89 [(1,.ptr 1 0),(2,.ptr 2 0),(3,.own 900),(4,i64 A.length),(5,.ptr 5 0),(6,.own 902),(15,pths s.paths),(16,i64 s.paths.length),(17,i64 A.length),(37,i64 t.out.length),(38,i64 a.length)] [(1,tkC s t),(2,sc0),(5,.live (.cells 86 p.cells)),(900,rowW C),(902,rowX (a.map (Sco.late A.length)++b))],fun x=>x.1.2.length,⟨([],t.out),rfl⟩,?_,?_⟩
 . exact (hle_Q [(1,some 1),(2,some 2),(5,some 5),(900,some 900),(902,some 35)])
 rintro ⟨⟨a,b⟩,h'⟩
 dsimp only at h'
 refine zbk fun Q2 hQ2=>?_
 conv=>whnf
 cases b with
 | cons y b =>
  have hz':=zar h'
  have e0:(a++[y]).map (Sco.late A.length)++b=a.map (Sco.late A.length)++Sco.late A.length y :: b:=by simp
  refine sT ?_
  refine sO ?_
  refine zaj (a:=a.map (Sco.late A.length)) (b:=b) (s:=y) rfl (by simp) ?_;conv=>whnf
  by_cases d1:y.state=1
  case neg =>
   have e1:=yix (i:=A.length) (y:=y) fun h=>d1 h.1
   refine zab (beq_eq_false_iff_ne.2 d1) ?_;conv=>whnf
   (try (refine hcut.go ?_;conv=>whnf))
   refine sF ?_
   refine hQ2 _ _ ?_;conv=>whnf
   exact ⟨⟨(a++[y],b),zae h'⟩,(hle_X [(1,some 1),(2,some 2),(5,some 5),(900,some 900),(902,some 902)] (by repeat' (first | exact z0 | refine z1 ?_ | refine ⟨?_,?_⟩ | ((rw [e0,e1])) | exact z2))),by simp⟩
  refine zad (beq_iff_eq.2 d1) ?_;conv=>whnf
  refine sO ?_
  refine zaj (a:=a.map (Sco.late A.length)) (b:=b) (s:=y) rfl (by simp) ?_;conv=>whnf
  by_cases d2:y.path=(A.length:Int)
  case neg =>
   have e1:=yix (i:=A.length) (y:=y) fun h=>d2 h.2
   refine zab (by simpa using d2) ?_;conv=>whnf
   (try (refine hcut.go ?_;conv=>whnf))
   refine sF ?_
   refine hQ2 _ _ ?_;conv=>whnf
   exact ⟨⟨(a++[y],b),zae h'⟩,(hle_X [(1,some 1),(2,some 2),(5,some 5),(900,some 900),(902,some 902)] (by repeat' (first | exact z0 | refine z1 ?_ | refine ⟨?_,?_⟩ | ((rw [e0,e1])) | exact z2))),by simp⟩
  have e1:=ymc (i:=A.length) (y:=y) ⟨d1,d2⟩
  refine zad (by simpa using d2) ?_;conv=>whnf
  refine sO ?_
  refine zaj (a:=a.map (Sco.late A.length)) (b:=b) (s:=y) rfl (by simp) ?_;conv=>whnf
  refine sF ?_
  refine hQ2 _ _ ?_;conv=>whnf
  exact ⟨⟨(a++[y],b),zae h'⟩,(hle_X [(1,some 1),(2,some 2),(5,some 5),(900,some 900),(902,some 902)] (by repeat' (first | exact z0 | refine z1 ?_ | refine ⟨?_,?_⟩ | ((rw [e0];exact (zdd (by simp) (by rw [e1];rfl)).symm)) | exact z2))),by simp⟩
 | nil =>
 have hz':=zaz h'
 rw [List.append_nil] at h'
 subst h'
 have hpt:=zts (rows:=(t.out.map (Sco.late A.length)++[]).map Sent.row) (t.out.map (Sco.late A.length)) s.cum hsz.len (by rw [List.append_nil])
 have hrow:((t.out.map (Sco.late A.length)++[]).map Sent.row)=(t.out.map (Sco.late A.length)).map Sent.row:=by rw [List.append_nil]
 refine sN ?_
 refine hQ2 _ _ ?_;conv=>whnf
 (refine cL ?_;refine dL (Paths.yeg p s.config.part) ?_)
 (refine cP ?_;refine dL hpt ?_)
 by_cases c3:(Sco.point (t.out.map (Sco.late A.length)) s.cum).1 > s.cum
 case pos =>
  rw [if_pos (show (Sco.point (lateS s.config.part t A.length p).out t.cum).1 > t.cum from by rw [hcu];exact c3)] at hgo
  refine zad (by simpa using c3) ?_;conv=>whnf
  (try (refine hcut.go ?_;conv=>whnf))
  refine zaa (c:=((C.map Path.row).length+1) * 56 <= 140737488355328) (by rw [List.length_map];omega) ?_;conv=>whnf
  refine sF ?_
  refine hQ _ _ ?_;conv=>whnf
  exact ⟨⟨((A++[p],B),{ lateS s.config.part t A.length p with forward:=true },C++[Paths.late p s.config.part]),zae h,by rw [hAl,hst];exact hgo,by rw [<- hset];unfold lateS;rw [hk],hsz,by simp [hC]⟩,(hle_Z [35,902] [(1,some 1),(2,some 2),(900,some 84)] (by repeat' (first | exact z0 | refine z1 ?_ | refine ⟨?_,?_⟩ | ((exact zat (f:=Path.row) rfl rfl)) | ((exact congrArg (tkR s true) hrow)) | exact z2))),by simp⟩
 case neg =>
  rw [if_neg (show ¬ (Sco.point (lateS s.config.part t A.length p).out t.cum).1 > t.cum from by rw [hcu];exact c3)] at hgo
  refine zab (by simpa using c3) ?_;conv=>whnf
  (try (refine hcut.go ?_;conv=>whnf))
  refine zaa (c:=((C.map Path.row).length+1) * 56 <= 140737488355328) (by rw [List.length_map];omega) ?_;conv=>whnf
  refine sF ?_
  refine hQ _ _ ?_;conv=>whnf
  exact ⟨⟨((A++[p],B),lateS s.config.part t A.length p,C++[Paths.late p s.config.part]),zae h,by rw [hAl,hst];exact hgo,by rw [<- hset];unfold lateS;rw [hk],hsz,by simp [hC]⟩,(hle_Z [35,902] [(1,some 1),(2,some 2),(900,some 84)] (by repeat' (first | exact z0 | refine z1 ?_ | refine ⟨?_,?_⟩ | ((exact zat (f:=Path.row) rfl rfl)) | ((exact congrArg (tkR s t.forward) hrow)) | exact z2))),by simp⟩
end Snd
end Go.HL
namespace Go.HL
open Go.Proofs
namespace Snd
open Ser
set_option maxHeartbeats 8000000
set_option maxRecDepth 100000
set_option linter.unusedSimpArgs false
def pdC (s:Sender) (q h o p m f x y:HV):List HV:=[i64 s.config.streams,i64 s.config.part,i64 s.config.packet,i64 s.config.paths,i64 s.config.turns,i64 s.config.waiting,i64 s.config.first,i64 s.clock,q,i64 s.sched.last,i64 s.sched.hand,h,o,p,i64 s.cum,i64 s.next,i64 s.room,m,f,hbool s.forward,i64 s.recover,x,y]
abbrev pdS (s:Sender) (q o p m:HV) (x y:Nat):HSlot:=.live (.cells 148 (pdC s q (ints s.sched.had) o p m (ints s.fates) (.own x) (.own y)))
abbrev pdP (s:Sender) (x y:Nat):HSlot:=pdS s (Sch.qs s.queue) (Sco.sents s.out) (pths s.paths) (ints s.mids) x y
def selV (b:Bool) (i:Nat) (v:HV):HV:=match b with
 | true=>.own i
 | false=>v
def selH (b:Bool) (i:Nat) (x:HSlot) (l:List (Nat × HSlot)):List (Nat × HSlot):=match b with
 | true=>(i,x) :: l
 | false=>l
abbrev pdH (b:Bool) (s:Sender) (a c:List Chunk):List (Nat × HSlot) :=
 (1000,pdS s (selV b 1001 (Sch.qs s.queue)) (Sco.sents s.out) (pths s.paths) (ints s.mids) 1007 1008) :: (1007,rowK a) :: (1008,rowK c) ::
  selH b 1001 (rowQ s.queue) []
abbrev pdD:List (Nat × HSlot):=[(1001,.dead)]
theorem yiy {b:Bool} {s:Sender} {a c:List Chunk}:∀ i,lk .free (pdH b s a c) i=.free \/ i ∈ [1000,1001,1007,1008]:=fun i=>by
 rcases zbn (L:=pdH b s a c) i with h | h
 . exact .inl h
 . right;cases b <;> simp [selH] at h ⊢ <;> omega
theorem zqy (s:Sender) (a c:List Chunk) (path:Nat) (w:Path) (hw:s.paths[path]?=some w) (_:s.paths.length < 2 ^ 22) :
 FunOK Tryz.prog 101 [.ptr 1000 0,i64 path] (lk .free (pdH false s a c)) (hbool (opened s path)) (lk .free (pdH false s a c)):=by
 have hi:path < s.paths.length:=(List.getElem?_eq_some_iff.1 hw).1
 rw [opened,hw]
 refine zal mixed Tryz.func101 (by decide) [1000,1007,1008] zbn ?_
 conv=>whnf
 refine zai hw rfl ?_;conv=>whnf
 refine zai hw rfl ?_;conv=>whnf
 refine sD ?_
 (exact zbw [(1000,some 1000),(1007,some 1007),(1008,some 1008)])
theorem zqz (b:Bool) (s S:Sender) (a c:List Chunk) (i:Nat) (x:Sent) (hx:s.out[i]?=some x) (ho:Sco.Sized (s.out.set i (flyX x 0))) (hp:s.paths.length < 2 ^ 22) (hS:flights { s with out:=s.out.set i (flyX x 0) }=S) (ha:a.length < 2 ^ 30) :
 FunOK Tryz.prog 102 [.ptr 1000 0,i64 i,i64 0] (lk .free (pdH b s a c)) (.tup []) (lk .free ((1000,pdP S 0 1008) :: (0,rowK (a++[x.chunk])) :: (1008,rowK c) :: (1007,.dead) :: pdD)):=by
 have ho1:=ho.len
 rw [List.length_set] at ho1
 have hi:i < s.out.length:=(List.getElem?_eq_some_iff.1 hx).1
 have hf:=fun rows=>zfs (rows:=rows) { s with out:=s.out.set i (flyX x 0) } ho hp
 rw [hS] at hf
 cases b <;> (
  refine zal mixed Tryz.func102 (by decide) [1000,1001,1007,1008] yiy ?_
  conv=>whnf
  refine zaa (c:=(([]:List (List PV)).length+(s.out.map Sent.row).length) * 200 <= 140737488355328) (by simp;omega) ?_;conv=>whnf
  refine sOm ?_
  refine zai (l:=s.out) hx rfl ?_;conv=>whnf
  refine sR ?_
  refine sOm ?_
  refine zai (l:=s.out) hx rfl ?_;conv=>whnf
  (refine cP ?_;refine dL (hf _ (by rw [List.map_set];rfl)) ?_)
  refine ⟨0,rfl,by decide,?_⟩;conv=>whnf
  refine zaa (c:=((a.map Chunk.row).length+1) * 128 <= 140737488355328) (by simp;omega) ?_;conv=>whnf
  refine ⟨0,rfl,by decide,?_⟩;conv=>whnf
  refine sD ?_
  (exact zbz [(1000,some 1000),(1001,some 1001),(1007,some 1007),(1008,some 1008),(0,some 55)] (by repeat' (first | exact z0 | refine z1 ?_ | refine ⟨?_,?_⟩ | ((exact zat (f:=Chunk.row) rfl rfl)) | exact z2))))
theorem zra (b:Bool) (s S:Sender) (a c:List Chunk) (i:Nat) (x:Sent) (hx:s.out[i]?=some x) (ho:Sco.Sized (s.out.set i (flyX x 1))) (hp:s.paths.length < 2 ^ 22) (hS:flights { s with out:=s.out.set i (flyX x 1) }=S) (ha:c.length < 2 ^ 30) :
 FunOK Tryz.prog 102 [.ptr 1000 0,i64 i,i64 1] (lk .free (pdH b s a c)) (.tup []) (lk .free ((1000,pdP S 1007 0) :: (1007,rowK a) :: (0,rowK (c++[x.chunk])) :: (1008,.dead) :: pdD)):=by
 have ho1:=ho.len
 rw [List.length_set] at ho1
 have hi:i < s.out.length:=(List.getElem?_eq_some_iff.1 hx).1
 have hf:=fun rows=>zfs (rows:=rows) { s with out:=s.out.set i (flyX x 1) } ho hp
 rw [hS] at hf
 cases b <;> (
  refine zal mixed Tryz.func102 (by decide) [1000,1001,1007,1008] yiy ?_
  conv=>whnf
  refine zaa (c:=(([]:List (List PV)).length+(s.out.map Sent.row).length) * 200 <= 140737488355328) (by simp;omega) ?_;conv=>whnf
  refine sOm ?_
  refine zai (l:=s.out) hx rfl ?_;conv=>whnf
  refine sR ?_
  refine sOm ?_
  refine zai (l:=s.out) hx rfl ?_;conv=>whnf
  (refine cP ?_;refine dL (hf _ (by rw [List.map_set];rfl)) ?_)
  refine ⟨1,rfl,by decide,?_⟩;conv=>whnf
  refine zaa (c:=((c.map Chunk.row).length+1) * 128 <= 140737488355328) (by simp;omega) ?_;conv=>whnf
  refine ⟨1,rfl,by decide,?_⟩;conv=>whnf
  refine sD ?_
  (exact zbz [(1000,some 1000),(1001,some 1001),(1007,some 1007),(1008,some 1008),(0,some 55)] (by repeat' (first | exact z0 | refine z1 ?_ | refine ⟨?_,?_⟩ | ((exact zat (f:=Chunk.row) rfl rfl)) | exact z2))))
end Snd
end Go.HL
namespace Go.HL
open Go.Proofs
namespace Snd
open Ser
set_option maxHeartbeats 16000000
set_option maxRecDepth 100000
set_option linter.unusedSimpArgs false
abbrev pdR (s:Sender) (a c:List Chunk):List (Nat × HSlot):=[(1000,pdP s 0 1),(0,rowK a),(1,rowK c),(1007,.dead),(1008,.dead)]
abbrev cq (s:Sender) (k:Nat) (m:Queued):Sender:={ cutS s k m with queue:=s.queue }
def built (s:Sender) (k:Nat) (m:Queued) (A:List Queued):List Queued:=if decide (m.sent+many s m=m.message.data.length) then A.eraseIdx k else A.set k { m with mid:=midOf s m,sent:=m.sent+many s m,parts:=W (m.parts+1) }
theorem zzh {s:Sender} {k:Nat} {m x:Queued} {A:List Queued} (h:A.length ≠ k):built s k m (A++[x])=built s k m A++[x]:=by
 unfold built
 split
 . rcases Nat.lt_or_gt_of_ne h with h | h
   . rw [List.eraseIdx_of_length_le (by simp;omega),List.eraseIdx_of_length_le (by omega)]
   . rw [List.eraseIdx_append_of_lt_length (by omega)]
 . rcases Nat.lt_or_gt_of_ne h with h | h
   . rw [List.set_eq_of_length_le (by simp;omega),List.set_eq_of_length_le (by omega)]
   . rw [List.set_append_left _ _ (by omega)]
theorem yez {s:Sender} {m x:Queued} {A:List Queued} (ho:decide (m.sent+many s m=m.message.data.length)=true):built s A.length m (A++[x])=built s A.length m A:=by
 unfold built
 rw [if_pos ho,if_pos ho,List.eraseIdx_append_of_length_le (Nat.le_refl _),List.eraseIdx_of_length_le (Nat.le_refl _)];simp
theorem yfa {s:Sender} {m x:Queued} {A:List Queued} (ho:decide (m.sent+many s m=m.message.data.length)=false):built s A.length m (A++[x])=built s A.length m A++[{ m with mid:=midOf s m,sent:=m.sent+many s m,parts:=W (m.parts+1) }]:=by
 unfold built
 rw [if_neg (by rw [ho];decide),if_neg (by rw [ho];decide),List.set_append_right _ _ (Nat.le_refl _),List.set_eq_of_length_le (Nat.le_refl _)];simp
theorem yiz (s:Sender) (k:Nat) (m:Queued) (A:List Queued):(built s k m A).length <= A.length:=by
 unfold built;split
 . exact List.length_eraseIdx_le _ _
 . simp
abbrev rnH (s:Sender) (m:Queued) (a c:List Chunk):List (Nat × HSlot):=[(1000,pdP s 1007 1008),(1007,rowK a),(1008,rowK c),(5,.live (.cells 117 m.cells))]
abbrev rnM (s:Sender) (m:Queued) (a c:List Chunk):List (Nat × HSlot):=[(1000,pdP { s with mids:=zcj s m } 1007 1008),(1007,rowK a),(1008,rowK c),(5,.live (.cells 117 ({ m with mid:=midOf s m }:Queued).cells))]
abbrev x0r (s:Sender) (m:Queued) (o:Bool):Sent:=⟨s.next,m.id,0,0,0,0,m.came,m.message.life,m.message.tries,⟨1,tag s.next,m.message.stream,tag (midOf s m),m.parts,o,m.message.ordered,(m.message.data.drop m.sent.toNat).take (many s m).toNat,[],0,[]⟩⟩
abbrev rnK (s:Sender) (m:Queued) (o:Bool) (r:List (List PV)):HSlot:=.live (.cells 148 (pdC { s with mids:=zcj s m,sched:=Sch.had s.sched { m with mid:=midOf s m } (many s m) o,next:=W (s.next+1) } (Sch.qs s.queue) (ints (Sch.had s.sched { m with mid:=midOf s m } (many s m) o).had) (.p (.sl 20 r)) (pths s.paths) (ints (zcj s m)) (ints s.fates) (.own 1007) (.own 1008)))
theorem rn_eq {s:Sender} {k:Nat} {m:Queued} {o:Bool} (h:o=decide (m.sent+many s m=m.message.data.length)) :
 rnK s m o ((([]:List (List PV))++s.out.map Sent.row)++[(x0r s m o).row])=pdS (cq s k m) (Sch.qs s.queue) (Sco.sents (cutS s k m).out) (pths s.paths) (ints (zcj s m)) 1007 1008:=by
 subst h
 refine congrArg (rnK s m _) ?_
 show _=(s.out++[_]).map Sent.row
 rw [List.map_append];rfl
theorem yja {s:Sender} {k:Nat} {m:Queued}:built s k m []=[]:=by unfold built;split <;> simp
theorem ymd {R P:Prop} (h:R -> P) (r:R):P:=h r
theorem zpb (s:Sender) (a c:List Chunk) (hs:NFit s) (hlast:0 < s.sched.had.length -> 0 <= s.sched.last /\ s.sched.last < s.sched.had.length) (h2p:s.paths.length <= 2) (hb:a.length+c.length < 2 ^ 29)
 (hfl:∀ k m,s.queue[k]?=some m -> Sco.Sized ((cutS s k m).out.set s.out.length (flyX ⟨s.next,m.id,0,0,0,0,m.came,m.message.life,m.message.tries,cut s m (many s m)⟩ (choose s))) /\
  flights { cutS s k m with out:=(cutS s k m).out.set s.out.length (flyX ⟨s.next,m.id,0,0,0,0,m.came,m.message.life,m.message.tries,cut s m (many s m)⟩ (choose s)) }=(next1 ⟨s,[a,c]⟩ k m (many s m)).s) :
 FunOK Tryz.prog 103 [.ptr 1000 0] (lk .free (pdH false s a c)) (hbool (nx s [a,c]).2) (lk .free (pdR (nx s [a,c]).1.s (nth0 (nx s [a,c]).1.out) (nth1 (nx s [a,c]).1.out))):=by
 obtain ⟨g,hp,hp1,hp2,hmsg⟩:=hs
 obtain ⟨⟨f1,f2,f3,f4,f5,f6,f7⟩,g2,g3,g4⟩:=g
 obtain ⟨hch,hch2⟩:=zcc hp
 have pc:=Paths.zgc s.paths (by omega)
 rw [hch] at pc
 obtain ⟨w,hw⟩:∃ w,s.paths[choose s]?=some w:=⟨_,List.getElem?_eq_getElem hch2⟩
 have pn:=Sch.yex s.config.turns s.sched s.queue (by omega) (by omega) hlast
 have po:=zqy s a c (choose s) w hw (by omega)
 have hop:opened s (choose s)=decide (w.flight < w.window):=by rw [opened,hw]
 rw [hop] at po
 generalize hG:nx s [a,c]=G
 refine zal mixed Tryz.func103 (by decide) [1000,1007,1008] zbn ?_
 conv=>whnf
 (refine cL ?_;refine dL pc ?_)
 by_cases c1:zcu s < 0
 case pos =>
  (refine cL ?_;refine dL pn ?_)
  refine sD ?_
  refine zad ?_ ?_
  . exact decide_eq_true c1
  conv=>whnf
  rw [ybv c1] at hG
  subst hG
  (exact zbw [(1000,some 1000),(1007,some 1007),(1008,some 1008),(0,some 1007),(1,some 1008)])
 obtain ⟨k,hkl,hke⟩:=zti (t:=s.config.turns) (s:=s.sched) (q:=s.queue) (by unfold zcu at c1;omega)
 have hke':zcu s=k:=hke
 rw [hke] at pn
 obtain ⟨m,hm⟩:∃ m,s.queue[k]?=some m:=⟨_,List.getElem?_eq_getElem hkl⟩
 have hmf:=hmsg m (List.mem_of_getElem? hm)
 obtain ⟨mf,mh,ms,ml,md⟩:=hmf
 obtain ⟨n1,n2,n3⟩:=zli (s:=s) (m:=m) hp1 hp2 ms ml md
 (refine cL ?_;refine dL pn ?_)
 refine sD ?_
 by_cases c2:w.flight < w.window
 case neg =>
  rw [decide_eq_false c2] at po
  (refine zag [] [(1000,1000),(1007,1007),(1008,1008)] [] ?_;(conv=>whnf);refine dG po ?_)
  rw [ybw hw c2] at hG
  subst hG
  (exact zbw [(1000,some 1000),(1007,some 1007),(1008,some 1008),(0,some 1007),(1,some 1008)])
 rw [decide_eq_true c2] at po
 (refine zag [] [(1000,1000),(1007,1007),(1008,1008)] [] ?_;(conv=>whnf);refine dG po ?_)
 by_cases c3:(s.out.length:Int) >= 60
 case pos =>
  refine zad ?_ ?_
  . rw [List.length_map];exact decide_eq_true c3
  conv=>whnf
  rw [ybx c3] at hG
  subst hG
  (exact zbw [(1000,some 1000),(1007,some 1007),(1008,some 1008),(0,some 1007),(1,some 1008)])
 refine zab ?_ ?_
 . rw [List.length_map];exact decide_eq_false c3
 conv=>whnf
 (try (refine hcut.go ?_;conv=>whnf))
 refine zai hm rfl ?_;conv=>whnf
 refine zcx (z':=(m.message.data.length:Int) - m.sent) ?_ ?_
 . show W _=_
   rw [List.length_map];exact W_fit (by omega) (by omega)
 conv=>whnf
 refine hcut.meet PUnit (fun _=>hsP [1000,1007,1008] 298 [(0,.ptr 1000 0),(3,i64 (choose s)),(4,i64 k),(5,.ptr 5 0),(6,i64 (many s m))] (rnH s m a c)) ?_ ?_
 . conv=>whnf
   refine zaf (fun c=>?_) (fun c=>?_)
   . have c':(m.message.data.length:Int) - m.sent > s.config.part:=of_decide_eq_true c
     conv=>whnf
     exact ⟨⟨⟩,(hle_Y [(1000,some 1000),(1007,some 1007),(1008,some 1008),(5,some 5)] (by repeat' (first | exact z0 | refine z1 ?_ | refine ⟨?_,?_⟩ | ((exact zbg (by unfold many;split <;> omega))) | exact z2)))⟩
   . have c':¬ (m.message.data.length:Int) - m.sent > s.config.part:=of_decide_eq_false c
     conv=>whnf
     exact ⟨⟨⟩,(hle_Y [(1000,some 1000),(1007,some 1007),(1008,some 1008),(5,some 5)] (by repeat' (first | exact z0 | refine z1 ?_ | refine ⟨?_,?_⟩ | ((exact zbg (by unfold many;split <;> omega))) | exact z2)))⟩
 rintro ⟨⟩
 conv=>whnf
 refine ⟨{ x:List Path × List Path // s.paths=x.1++x.2 },fun | ⟨(A,B),_⟩=>hsP [1000,1007,1008] 298 [(0,.ptr 1000 0),(3,i64 (choose s)),(4,i64 k),(5,.ptr 5 0),(6,i64 (many s m)),(7,i64 (A.foldl (fun n a=>W (n+a.flight)) 0)),(89,pths s.paths),(90,i64 s.paths.length),(91,i64 A.length)] (rnH s m a c),fun x=>x.1.2.length,⟨([],s.paths),rfl⟩,?_,?_⟩
 . exact (hle_P [(1000,some 1000),(1007,some 1007),(1008,some 1008),(5,some 5)])
 rintro ⟨⟨A,B⟩,h⟩
 dsimp only at h
 conv=>whnf
 cases B with
 | cons p B =>
  have hz:=zar h
  refine sT ?_
  refine zaj h rfl ?_;conv=>whnf
  refine sR ?_
  refine sF ?_
  exact ⟨⟨(A++[p],B),zae h⟩,(hle_Y [(1000,some 1000),(1007,some 1007),(1008,some 1008),(5,some 5)] (by repeat' (first | exact z0 | refine z1 ?_ | refine ⟨?_,?_⟩ | ((exact zbg (by rw [List.foldl_append];rfl))) | exact z2))),by simp⟩
 | nil =>
 have hz:=zaz h
 rw [List.append_nil] at h
 subst h
 refine sNm ?_
 have hWs:W (m.sent+many s m)=m.sent+many s m:=W_fit (by omega) (by omega)
 apply ymd
 . intro hrest
   by_cases c4:flight s > 0
   case neg =>
    have c6:¬ (flight s > 0 /\ W (flight s+many s m) > s.room):=fun h=>c4 h.1
    refine zab (decide_eq_false c4) ?_;conv=>whnf
    refine hcut.meet (PLift (¬ (flight s > 0 /\ W (flight s+many s m) > s.room))) (fun _=>hsP [1000,1007,1008] 298 [(0,.ptr 1000 0),(3,i64 (choose s)),(4,i64 k),(5,.ptr 5 0),(6,i64 (many s m))] (rnM s m a c)) ?_ hrest
    conv=>whnf
    by_cases c7:m.mid < 0
    case neg =>
     have hm1:midOf s m=m.mid:=if_neg c7
     have hm2:zcj s m=s.mids:=if_neg c7
     refine zab (decide_eq_false c7) ?_;conv=>whnf
     exact ⟨⟨c6⟩,(hle_Y [(1000,some 1000),(1007,some 1007),(1008,some 1008),(5,some 5)] (by repeat' (first | exact z0 | refine z1 ?_ | refine ⟨?_,?_⟩ | ((rw [hm1];rfl)) | ((rw [hm2];rfl)) | exact z2)))⟩
    obtain ⟨v,hv⟩:∃ v,s.mids[midAt s m]?=some v:=⟨_,List.getElem?_eq_getElem (mf.at_ c7)⟩
    have hmo:midOf s m=v:=by rw [midOf,if_pos c7,hv];rfl
    have hms:zcj s m=s.mids.set (midAt s m) (W (v+1)):=by rw [zcj,if_pos c7,setAt,hv]
    have hml:=mf.at_ c7
    refine zad (decide_eq_true c7) ?_;conv=>whnf
    have hat:(m.message.stream+if m.message.ordered then 0 else s.config.streams)=(midAt s m:Int):=by unfold midAt;have:=mf.lo;have:=mf.lo2;split <;> omega
    have hfs:=mf.lo;have hfh:=mf.hi;have hfs2:=mf.lo2;have hfh2:=mf.hi2
    have hmr:∀ j:Nat,j=midAt s m -> (([]:List (List PV))++s.mids.map fun n=>[pi n]).set j [pi (W (v+1))]=(zcj s m).map fun n=>[pi n]:=fun j hj=>by rw [hj,hms];simp [List.map_set]
    (try (refine hcut.go ?_;conv=>whnf))
    cases ho:m.message.ordered with
    | true =>
     rw [ho,if_pos rfl] at hat
     conv=>whnf
     (try (refine hcut.go ?_;conv=>whnf))
     refine zai hv (by omega) ?_;conv=>whnf
     refine zaa (c:=(([]:List (List PV)).length+(s.mids.map fun n=>[pi n]).length) * 8 <= 140737488355328) (by simp;omega) ?_;conv=>whnf
     refine sOm ?_
     refine zai (l:=s.mids) hv (by omega) ?_;conv=>whnf
     refine sRm ?_
     refine sOm ?_
     refine zai (l:=s.mids) hv (by omega) ?_;conv=>whnf
     exact ⟨⟨c6⟩,(hle_Z [146] [(1000,some 1000),(1007,some 1007),(1008,some 1008),(5,some 5)] (by repeat' (first | exact z0 | refine z1 ?_ | refine ⟨?_,?_⟩ | ((rw [hmo];rfl)) | ((exact congrArg (fun r=>pdS { s with mids:=zcj s m } (Sch.qs s.queue) (Sco.sents s.out) (pths s.paths) (.p (.sl 1 r)) 1007 1008) (hmr _ (by omega)))) | exact z2)))⟩
    | false =>
     rw [ho,if_neg (by decide)] at hat
     conv=>whnf
     (try (refine hcut.go ?_;conv=>whnf))
     refine sF ?_
     refine zai hv (by omega) ?_;conv=>whnf
     refine zaa (c:=(([]:List (List PV)).length+(s.mids.map fun n=>[pi n]).length) * 8 <= 140737488355328) (by simp;omega) ?_;conv=>whnf
     refine sOm ?_
     refine zai (l:=s.mids) hv (by omega) ?_;conv=>whnf
     refine sRm ?_
     refine sOm ?_
     refine zai (l:=s.mids) hv (by omega) ?_;conv=>whnf
     exact ⟨⟨c6⟩,(hle_Z [146] [(1000,some 1000),(1007,some 1007),(1008,some 1008),(5,some 5)] (by repeat' (first | exact z0 | refine z1 ?_ | refine ⟨?_,?_⟩ | ((rw [hmo];rfl)) | ((exact congrArg (fun r=>pdS { s with mids:=zcj s m } (Sch.qs s.queue) (Sco.sents s.out) (pths s.paths) (.p (.sl 1 r)) 1007 1008) (hmr _ (by omega)))) | exact z2)))⟩
   refine zad (decide_eq_true c4) ?_;conv=>whnf
   refine sRm ?_
   by_cases c5:W (flight s+many s m) > s.room
   case pos =>
    refine zad (decide_eq_true c5) ?_;conv=>whnf
    rw [yby hke' hm hw c2 c3 ⟨c4,c5⟩] at hG
    subst hG
    (exact zbw [(1000,some 1000),(1007,some 1007),(1008,some 1008),(0,some 1007),(1,some 1008)])
   have c6:¬ (flight s > 0 /\ W (flight s+many s m) > s.room):=fun h=>c5 h.2
   refine zab (decide_eq_false c5) ?_;conv=>whnf
   refine hcut.meet (PLift (¬ (flight s > 0 /\ W (flight s+many s m) > s.room))) (fun _=>hsP [1000,1007,1008] 298 [(0,.ptr 1000 0),(3,i64 (choose s)),(4,i64 k),(5,.ptr 5 0),(6,i64 (many s m))] (rnM s m a c)) ?_ hrest
   conv=>whnf
   by_cases c7:m.mid < 0
   case neg =>
    have hm1:midOf s m=m.mid:=if_neg c7
    have hm2:zcj s m=s.mids:=if_neg c7
    refine zab (decide_eq_false c7) ?_;conv=>whnf
    exact ⟨⟨c6⟩,(hle_Y [(1000,some 1000),(1007,some 1007),(1008,some 1008),(5,some 5)] (by repeat' (first | exact z0 | refine z1 ?_ | refine ⟨?_,?_⟩ | ((rw [hm1];rfl)) | ((rw [hm2];rfl)) | exact z2)))⟩
   obtain ⟨v,hv⟩:∃ v,s.mids[midAt s m]?=some v:=⟨_,List.getElem?_eq_getElem (mf.at_ c7)⟩
   have hmo:midOf s m=v:=by rw [midOf,if_pos c7,hv];rfl
   have hms:zcj s m=s.mids.set (midAt s m) (W (v+1)):=by rw [zcj,if_pos c7,setAt,hv]
   have hml:=mf.at_ c7
   refine zad (decide_eq_true c7) ?_;conv=>whnf
   have hat:(m.message.stream+if m.message.ordered then 0 else s.config.streams)=(midAt s m:Int):=by unfold midAt;have:=mf.lo;have:=mf.lo2;split <;> omega
   have hfs:=mf.lo;have hfh:=mf.hi;have hfs2:=mf.lo2;have hfh2:=mf.hi2
   have hmr:∀ j:Nat,j=midAt s m -> (([]:List (List PV))++s.mids.map fun n=>[pi n]).set j [pi (W (v+1))]=(zcj s m).map fun n=>[pi n]:=fun j hj=>by rw [hj,hms];simp [List.map_set]
   (try (refine hcut.go ?_;conv=>whnf))
   cases ho:m.message.ordered with
   | true =>
    rw [ho,if_pos rfl] at hat
    conv=>whnf
    (try (refine hcut.go ?_;conv=>whnf))
    refine zai hv (by omega) ?_;conv=>whnf
    refine zaa (c:=(([]:List (List PV)).length+(s.mids.map fun n=>[pi n]).length) * 8 <= 140737488355328) (by simp;omega) ?_;conv=>whnf
    refine sOm ?_
    refine zai (l:=s.mids) hv (by omega) ?_;conv=>whnf
    refine sRm ?_
    refine sOm ?_
    refine zai (l:=s.mids) hv (by omega) ?_;conv=>whnf
    exact ⟨⟨c6⟩,(hle_Z [146] [(1000,some 1000),(1007,some 1007),(1008,some 1008),(5,some 5)] (by repeat' (first | exact z0 | refine z1 ?_ | refine ⟨?_,?_⟩ | ((rw [hmo];rfl)) | ((exact congrArg (fun r=>pdS { s with mids:=zcj s m } (Sch.qs s.queue) (Sco.sents s.out) (pths s.paths) (.p (.sl 1 r)) 1007 1008) (hmr _ (by omega)))) | exact z2)))⟩
   | false =>
    rw [ho,if_neg (by decide)] at hat
    conv=>whnf
    (try (refine hcut.go ?_;conv=>whnf))
    refine sF ?_
    refine zai hv (by omega) ?_;conv=>whnf
    refine zaa (c:=(([]:List (List PV)).length+(s.mids.map fun n=>[pi n]).length) * 8 <= 140737488355328) (by simp;omega) ?_;conv=>whnf
    refine sOm ?_
    refine zai (l:=s.mids) hv (by omega) ?_;conv=>whnf
    refine sRm ?_
    refine sOm ?_
    refine zai (l:=s.mids) hv (by omega) ?_;conv=>whnf
    exact ⟨⟨c6⟩,(hle_Z [146] [(1000,some 1000),(1007,some 1007),(1008,some 1008),(5,some 5)] (by repeat' (first | exact z0 | refine z1 ?_ | refine ⟨?_,?_⟩ | ((rw [hmo];rfl)) | ((exact congrArg (fun r=>pdS { s with mids:=zcj s m } (Sch.qs s.queue) (Sco.sents s.out) (pths s.paths) (.p (.sl 1 r)) 1007 1008) (hmr _ (by omega)))) | exact z2)))⟩
 rintro ⟨c6⟩
 rw [zor hke' hm hw c2 c3 c6] at hG
 subst hG
 have hov:decide (m.sent+many s m >= ((m.message.data.map bRow).length:Int))=decide (m.sent+many s m=m.message.data.length):=by
  rw [List.length_map];by_cases h:m.sent+many s m=m.message.data.length
  . rw [decide_eq_true h,decide_eq_true];omega
  . rw [decide_eq_false h,decide_eq_false];omega
 conv=>whnf
 refine zan (z:=m.sent+many s m) hWs ?_;conv=>whnf
 (refine cP ?_;refine dL (Sch.yiu s.sched { m with mid:=midOf s m } (many s m) (decide (m.sent+many s m >= ((m.message.data.map bRow).length:Int))) (by omega)) ?_)
 refine sD ?_
 refine zaa (c:=(([]:List (List PV)).length+(s.out.map Sent.row).length) * 200 <= 140737488355328) (by simp;omega) ?_;conv=>whnf
 (refine cL ?_;refine dL (zbr s.next) ?_)
 (refine cL ?_;refine dL (zbr (midOf s m)) ?_)
 refine zan (z:=m.sent+many s m) hWs ?_;conv=>whnf
 refine zaa (c:=0 <= m.sent /\ m.sent <= m.sent+many s m /\ m.sent+many s m <= ((m.message.data.map bRow).length:Int)) ⟨ms,by omega,by rw [List.length_map];omega⟩ ?_
 refine zgi (o':=m.sent.toNat) (n':=(many s m).toNat) rfl (show (m.sent+many s m - m.sent).toNat=(many s m).toNat by rw [show m.sent+many s m - m.sent=many s m by omega]) ?_
 refine zee (f:=bRow) (l:=m.message.data) (o:=m.sent.toNat) (n:=(many s m).toNat) (by omega) ?_
 conv=>whnf
 refine zaa (c:=((([]:List (List PV))++s.out.map Sent.row).length+1) * 200 <= 140737488355328) (by simp;omega) ?_;conv=>whnf
 refine sD ?_
 refine sR ?_
 refine zan (z:=m.sent+many s m) hWs ?_;conv=>whnf
 refine sR ?_
 refine ⟨{ x:List Queued × List Queued // s.queue=x.1++x.2 },fun | ⟨(A,B),_⟩=>hsP [1000,1007,1008] 298 [(0,.ptr 1000 0),(3,i64 (choose s)),(4,i64 k),(5,.ptr 5 0),(12,hbool (decide (m.sent+many s m=m.message.data.length))),(13,.own 900),(260,Sch.qs s.queue),(261,i64 s.queue.length),(262,i64 A.length)] [(1000,pdS (cq s k m) (Sch.qs s.queue) (Sco.sents (cutS s k m).out) (pths s.paths) (ints (zcj s m)) 1007 1008),(1007,rowK a),(1008,rowK c),(5,.live (.cells 117 ({ m with mid:=midOf s m,sent:=m.sent+many s m,parts:=W (m.parts+1) }:Queued).cells)),(900,rowQ (built s k m A))],fun x=>x.1.2.length,⟨([],s.queue),rfl⟩,?_,?_⟩
 . exact (hle_Z [234] [(1000,some 1000),(1007,some 1007),(1008,some 1008),(5,some 5),(900,none)] (by repeat' (first | exact z0 | refine z1 ?_ | refine ⟨?_,?_⟩ | ((exact congrArg hbool hov.symm)) | ((exact rn_eq hov)) | ((show List.map Queued.row (built s k m [])=[];rw [yja];rfl)) | exact z2)))
 rintro ⟨⟨A,B⟩,h⟩
 dsimp only at h
 refine zbk fun Q hQ=>?_
 conv=>whnf
 cases B with
 | cons x B =>
  have hz:=zar h
  have hbl:=yiz s k m A
  refine sT ?_
  refine zaj h rfl ?_;conv=>whnf
  (try (refine hcut.go ?_;conv=>whnf))
  by_cases d:A.length=k
  case neg =>
   have hb:=zzh (s:=s) (m:=m) (x:=x) d
   refine zab (beq_eq_false_iff_ne.2 (by omega)) ?_;conv=>whnf
   (try (refine hcut.go ?_;conv=>whnf))
   refine zad (bne_iff_ne.2 (by omega)) ?_;conv=>whnf
   refine zaa (c:=(((built s k m A).map Queued.row).length+1) * 96 <= 140737488355328) (by rw [List.length_map];omega) ?_;conv=>whnf
   refine sF ?_
   refine hQ _ _ ?_;conv=>whnf
   exact ⟨⟨(A++[x],B),zae h⟩,(hle_Y [(1000,some 1000),(1007,some 1007),(1008,some 1008),(5,some 5),(900,some 281)] (by repeat' (first | exact z0 | refine z1 ?_ | refine ⟨?_,?_⟩ | ((exact zat (f:=Queued.row) hb rfl)) | exact z2))),by simp⟩
  refine zad (beq_iff_eq.2 (by omega)) ?_;conv=>whnf
  (try (refine hcut.go ?_;conv=>whnf))
  refine zab (by simp [d]) ?_;conv=>whnf
  subst d
  by_cases e:m.sent+many s m=m.message.data.length
  case pos =>
   have hb:=yez (s:=s) (x:=x) (A:=A) (decide_eq_true e)
   refine zab (by rw [decide_eq_true e];rfl) ?_;conv=>whnf
   (try (refine hcut.go ?_;conv=>whnf))
   refine sF ?_
   refine hQ _ _ ?_;conv=>whnf
   exact ⟨⟨(A++[x],B),zae h⟩,(hle_Y [(1000,some 1000),(1007,some 1007),(1008,some 1008),(5,some 5),(900,some 900)] (by repeat' (first | exact z0 | refine z1 ?_ | refine ⟨?_,?_⟩ | ((rw [hb])) | exact z2))),by simp⟩
  have hb:=yfa (s:=s) (x:=x) (A:=A) (decide_eq_false e)
  refine zad (by rw [decide_eq_false e];rfl) ?_;conv=>whnf
  refine zaa (c:=(((built s A.length m A).map Queued.row).length+1) * 96 <= 140737488355328) (by rw [List.length_map];omega) ?_;conv=>whnf
  refine sF ?_
  refine hQ _ _ ?_;conv=>whnf
  exact ⟨⟨(A++[x],B),zae h⟩,(hle_Y [(1000,some 1000),(1007,some 1007),(1008,some 1008),(5,some 5),(900,some 281)] (by repeat' (first | exact z0 | refine z1 ?_ | refine ⟨?_,?_⟩ | ((exact zat (f:=Queued.row) hb rfl)) | exact z2))),by simp⟩
 | nil =>
 have hz:=zaz h
 rw [List.append_nil] at h
 subst h
 obtain ⟨hsz,hfe⟩:=hfl k m hm
 have hx:(cutS s k m).out[s.out.length]?=some (⟨s.next,m.id,0,0,0,0,m.came,m.message.life,m.message.tries,cut s m (many s m)⟩:Sent):=by
  show (s.out++[_])[s.out.length]?=_
  rw [List.getElem?_append_right (Nat.le_refl _)];simp
 have hol:(cutS s k m).out.length=s.out.length+1:=by show (s.out++[_]).length=_;simp
 have hn1:next1 ⟨s,[a,c]⟩ k m (many s m)=fly ⟨cutS s k m,[a,c]⟩ s.out.length (choose s):=zdy s [a,c] k m
 refine sN ?_
 refine hQ _ _ ?_;conv=>whnf
 refine zcx (z':=(s.out.length:Int)) ?_ ?_
 . show W ((((cutS s k m).out.map Sent.row).length:Int) - 1)=_
   rw [List.length_map,hol,W_fit (by omega) (by omega)];omega
 conv=>whnf
 have hc01:choose s=0 \/ choose s=1:=by omega
 rcases hc01 with hc | hc
 . have ho1:(next1 ⟨s,[a,c]⟩ k m (many s m)).out=[a++[cut s m (many s m)],c]:=by
    rw [hn1,hc];simp only [fly,hx,setAt];rfl
   rw [hc] at hsz hfe
   have pf:=zqz true (cutS s k m) (next1 ⟨s,[a,c]⟩ k m (many s m)).s a c s.out.length (⟨s.next,m.id,0,0,0,0,m.came,m.message.life,m.message.tries,cut s m (many s m)⟩:Sent) hx hsz (by show s.paths.length < _;omega) hfe (by omega)
   generalize next1 ⟨s,[a,c]⟩ k m (many s m)=G at ho1 pf ⊢
   rw [hc]
   (refine zag [] [(1000,1000),(1001,900),(1007,1007),(1008,1008)] [(0,920)] ?_;(conv=>whnf);refine dG pf ?_)
   (exact zbz [(1000,some 1000),(1007,some 1007),(1008,some 1008),(0,some 920),(1,some 1008)] (by repeat' (first | exact z0 | refine z1 ?_ | refine ⟨?_,?_⟩ | ((rw [ho1];rfl)) | exact z2)))
 . have ho1:(next1 ⟨s,[a,c]⟩ k m (many s m)).out=[a,c++[cut s m (many s m)]]:=by
    rw [hn1,hc];simp only [fly,hx,setAt];rfl
   rw [hc] at hsz hfe
   have pf:=zra true (cutS s k m) (next1 ⟨s,[a,c]⟩ k m (many s m)).s a c s.out.length (⟨s.next,m.id,0,0,0,0,m.came,m.message.life,m.message.tries,cut s m (many s m)⟩:Sent) hx hsz (by show s.paths.length < _;omega) hfe (by omega)
   generalize next1 ⟨s,[a,c]⟩ k m (many s m)=G at ho1 pf ⊢
   rw [hc]
   (refine zag [] [(1000,1000),(1001,900),(1007,1007),(1008,1008)] [(0,920)] ?_;(conv=>whnf);refine dG pf ?_)
   (exact zbz [(1000,some 1000),(1007,some 1007),(1008,some 1008),(0,some 1007),(1,some 920)] (by repeat' (first | exact z0 | refine z1 ?_ | refine ⟨?_,?_⟩ | ((rw [ho1];rfl)) | exact z2)))
end Snd
end Go.HL
namespace Go.HL
open Go.Proofs
namespace Snd
open Ser
set_option maxHeartbeats 16000000
set_option maxRecDepth 100000
set_option linter.unusedSimpArgs false
abbrev hrS (c:Chunk) (V:Sender):List (Nat × HSlot):=[(2,scS V),(3,.live (.cells 61 c.cells)),(4,sc0)]
theorem zrb {N:Nat} (s:Sender) (c:Chunk) (hS:SI N s) (hsp:c.spans.length < 2 ^ 60):FunOK Tryz.prog 35 [s.hv,c.hv] zac (hear s c).hv zac:=by
 have hr:=hS.right
 have hs':=hS.fit
 obtain ⟨h1,h2,h3,h4,h5,h6,h7⟩:=hs'
 obtain ⟨q1,q2⟩:-(2 ^ 40) <= s.cum /\ s.cum <= 2 ^ 40:=by
  have:=hS.cum;have:=hS.nextle;have:=hS.next;have:=hS.few;have:=(zck hS.cfg);omega
 generalize hT:hear s c=T
 have pnr:=zgp s.cum c.tag q1 q2
 have hol:=h3.len
 refine zah mixed Tryz.func35 (by decide) ?_
 by_cases c1:c.kind=2
 case neg =>
  rw [hear,if_pos c1] at hT
  subst hT
  conv=>whnf
  refine zad (by simpa using c1) ?_;conv=>whnf
  try rfl
 rw [hear,if_neg (fun h=>h c1)] at hT
 by_cases k1:near s.cum c.tag < s.cum
 case pos =>
  rw [if_pos (.inl k1)] at hT
  subst hT
  generalize near s.cum c.tag=nr at pnr k1
  conv=>whnf
  refine zab (by simpa using c1) ?_;conv=>whnf
  (try (refine hcut.go ?_;conv=>whnf))
  (refine cL ?_;refine dL pnr ?_)
  refine zad (decide_eq_true k1) ?_;conv=>whnf
  try rfl
 by_cases k2:near s.cum c.tag > s.cum+s.out.length
 case pos =>
  rw [if_pos (.inr k2)] at hT
  subst hT
  generalize near s.cum c.tag=nr at pnr k1 k2
  conv=>whnf
  refine zab (by simpa using c1) ?_;conv=>whnf
  (try (refine hcut.go ?_;conv=>whnf))
  (refine cL ?_;refine dL pnr ?_)
  refine zab (decide_eq_false k1) ?_;conv=>whnf
  refine sF ?_
  refine zad (by rw [List.length_map];exact decide_eq_true k2) ?_;conv=>whnf
  try rfl
 rw [if_neg (fun h=>h.elim k1 k2),zmy] at hT
 have kk:¬ (near s.cum c.tag < s.cum \/ near s.cum c.tag > s.cum+s.out.length):=fun h=>h.elim k1 k2
 have hks:=zme h3 s.cum c s.paths.length
 have hlo:(Sco.sack s.out s.cum c s.paths.length).2.2.2.length <= s.out.length:=by
  rw [Sco.sack,if_neg kk]
  dsimp only
  rw [Sco.lost,List.length_map]
  refine Nat.le_trans (List.length_filter_le _ _) ?_
  rw [Sco.left,List.length_map];exact List.length_filter_le _ _
 have hcl:(Sco.sack s.out s.cum c s.paths.length).2.2.1.length=s.paths.length:=by
  rw [Sco.sack,if_neg kk];simp only [Sco.zij];rfl
 have hU:=fun t (h:SI N t)=>zwj (N:=N) (s:=t) h (part:=s.config.part) (L:=(Sco.sack s.out s.cum c s.paths.length).2.2.2)
 have hTS:=zwi hS kk
 have hk:FunOK Tryz.prog 84 [Sco.sents s.out,i64 s.cum,c.hv,i64 ((s.paths.map Path.row).length:Nat)] zac (.tup [Sco.sents (Sco.sack s.out s.cum c s.paths.length).1,i64 (Sco.sack s.out s.cum c s.paths.length).2.1,ints (Sco.sack s.out s.cum c s.paths.length).2.2.1,ints (Sco.sack s.out s.cum c s.paths.length).2.2.2]) zac:=by
  rw [List.length_map];exact Sco.yey s.out s.cum c s.paths.length h3 hr hsp
 generalize Sco.sack s.out s.cum c s.paths.length=K at hk hT hks hlo hcl hU hTS
 obtain ⟨K1,K2,K3,K4⟩:=K
 dsimp only at hk hT hks hlo hcl hU hTS
 clear kk
 generalize near s.cum c.tag=nr at pnr k1 k2
 conv=>whnf
 refine zab (by simpa using c1) ?_;conv=>whnf
 (try (refine hcut.go ?_;conv=>whnf))
 (refine cL ?_;refine dL pnr ?_)
 refine zab (decide_eq_false k1) ?_;conv=>whnf
 refine sF ?_
 refine zab (by rw [List.length_map];exact decide_eq_false k2) ?_;conv=>whnf
 (try (refine hcut.go ?_;conv=>whnf))
 (refine cP ?_;refine dL hk ?_)
 refine sD ?_
 refine ⟨{ x:List Path × List Path // s.paths=x.1++x.2 },fun | ⟨(A,B),_⟩=>hs 215 [(2,.ptr 2 0),(3,.ptr 3 0),(4,.ptr 4 0),(6,i64 s.cum),(8,i64 K2),(9,ints K3),(10,ints K4),(11,.own 900),(73,pths s.paths),(74,i64 s.paths.length),(75,i64 A.length)] ((900,rowW (A.mapIdx fun i p=>if K3[i]?.getD 0 > 0 then Paths.acked p (K3[i]?.getD 0) s.config.part (decide (K2 > s.cum)) else p)) :: hrS c { s with out:=K1,cum:=K2,room:=c.room }),fun x=>x.1.2.length,⟨([],s.paths),rfl⟩,?_,?_⟩
 . exact (hle_X [(2,some 2),(3,some 3),(4,some 4),(900,none)] (by repeat' (first | exact z0 | refine z1 ?_ | refine ⟨?_,?_⟩ | ((exact zbg (by rw [List.length_map]))) | exact z2)))
 rintro ⟨⟨A,B⟩,h⟩
 dsimp only at h
 refine zbk fun Q hQ=>?_
 conv=>whnf
 cases B with
 | cons p B =>
  have hz:=zar h
  have hql:s.paths.length=A.length+(p :: B).length:=by rw [h];simp
  obtain ⟨n,hn⟩:∃ n,K3[A.length]?=some n:=⟨_,List.getElem?_eq_getElem (by rw [hcl,hql];simp)⟩
  have hm:(A++[p]).mapIdx (fun i p=>if K3[i]?.getD 0 > 0 then Paths.acked p (K3[i]?.getD 0) s.config.part (decide (K2 > s.cum)) else p)=A.mapIdx (fun i p=>if K3[i]?.getD 0 > 0 then Paths.acked p (K3[i]?.getD 0) s.config.part (decide (K2 > s.cum)) else p)++[if n > 0 then Paths.acked p n s.config.part (decide (K2 > s.cum)) else p]:=by
   rw [List.mapIdx_concat,hn];rfl
  refine sT ?_
  refine zaj h rfl ?_;conv=>whnf
  (try (refine hcut.go ?_;conv=>whnf))
  refine zai hn rfl ?_;conv=>whnf
  by_cases d1:n > 0
  case pos =>
   rw [if_pos d1] at hm
   refine zad (decide_eq_true d1) ?_;conv=>whnf
   refine zai hn rfl ?_;conv=>whnf
   (refine cL ?_;refine dL (Paths.zyo p n s.config.part (decide (K2 > s.cum))) ?_)
   refine sD ?_
   refine zaa (c:=(((A.mapIdx fun i p=>if K3[i]?.getD 0 > 0 then Paths.acked p (K3[i]?.getD 0) s.config.part (decide (K2 > s.cum)) else p).map Path.row).length+1) * 56 <= 140737488355328) (by rw [List.length_map,List.length_mapIdx];omega) ?_;conv=>whnf
   refine sF ?_
   refine hQ _ _ ?_;conv=>whnf
   exact ⟨⟨(A++[p],B),zae h⟩,(hle_X [(2,some 2),(3,some 3),(4,some 4),(900,some 100)] (by repeat' (first | exact z0 | refine z1 ?_ | refine ⟨?_,?_⟩ | ((exact zat (f:=Path.row) hm rfl)) | exact z2))),by simp⟩
  rw [if_neg d1] at hm
  refine zab (decide_eq_false d1) ?_;conv=>whnf
  (try (refine hcut.go ?_;conv=>whnf))
  refine zaa (c:=(((A.mapIdx fun i p=>if K3[i]?.getD 0 > 0 then Paths.acked p (K3[i]?.getD 0) s.config.part (decide (K2 > s.cum)) else p).map Path.row).length+1) * 56 <= 140737488355328) (by rw [List.length_map,List.length_mapIdx];omega) ?_;conv=>whnf
  refine sF ?_
  refine hQ _ _ ?_;conv=>whnf
  exact ⟨⟨(A++[p],B),zae h⟩,(hle_X [(2,some 2),(3,some 3),(4,some 4),(900,some 100)] (by repeat' (first | exact z0 | refine z1 ?_ | refine ⟨?_,?_⟩ | ((exact zat (f:=Path.row) hm rfl)) | exact z2))),by simp⟩
 | nil =>
 have hz:=zaz h
 rw [List.append_nil] at h
 subst h
 refine sN ?_
 refine hQ _ _ ?_;conv=>whnf
 have hcp:(s.paths.mapIdx fun i p=>if K3[i]?.getD 0 > 0 then Paths.acked p (K3[i]?.getD 0) s.config.part (decide (K2 > s.cum)) else p).length=s.paths.length:=List.length_mapIdx
 have hTe:zki s c (K1,K2,K3,K4)=flights { s with out:=K1,cum:=K2,room:=c.room,paths:=s.paths.mapIdx fun i p=>if K3[i]?.getD 0 > 0 then Paths.acked p (K3[i]?.getD 0) s.config.part (decide (K2 > s.cum)) else p }:=rfl
 have htl:(flights { s with out:=K1,cum:=K2,room:=c.room,paths:=s.paths.mapIdx fun i p=>if K3[i]?.getD 0 > 0 then Paths.acked p (K3[i]?.getD 0) s.config.part (decide (K2 > s.cum)) else p }).paths.length=s.paths.length:=by
  show (List.mapIdx _ _).length=_
  rw [List.length_mapIdx];exact hcp
 have htc:(flights { s with out:=K1,cum:=K2,room:=c.room,paths:=s.paths.mapIdx fun i p=>if K3[i]?.getD 0 > 0 then Paths.acked p (K3[i]?.getD 0) s.config.part (decide (K2 > s.cum)) else p }).cum=K2:=rfl
 have htp:(flights { s with out:=K1,cum:=K2,room:=c.room,paths:=s.paths.mapIdx fun i p=>if K3[i]?.getD 0 > 0 then Paths.acked p (K3[i]?.getD 0) s.config.part (decide (K2 > s.cum)) else p }).config.part=s.config.part:=rfl
 have pf:=ziy { s with out:=K1,cum:=K2,room:=c.room,paths:=s.paths.mapIdx fun i p=>if K3[i]?.getD 0 > 0 then Paths.acked p (K3[i]?.getD 0) s.config.part (decide (K2 > s.cum)) else p } hks (by dsimp only;omega)
 rw [hTe] at hT hTS
 generalize flights { s with out:=K1,cum:=K2,room:=c.room,paths:=s.paths.mapIdx fun i p=>if K3[i]?.getD 0 > 0 then Paths.acked p (K3[i]?.getD 0) s.config.part (decide (K2 > s.cum)) else p }=t at pf hT hTS htl htc htp
 (refine zap [(0,950)]  ?_;(conv=>whnf);refine dOm pf ?_)
 have hpl:=hr.p0
 obtain ⟨hch,hch2⟩:=zcc (s:=t) (by omega)
 obtain ⟨w,hw⟩:∃ w,t.paths[choose t]?=some w:=⟨_,List.getElem?_eq_getElem hch2⟩
 refine hcut.meet PUnit (fun _=>hs 215 [(2,.ptr 2 0),(3,.ptr 3 0),(4,.ptr 4 0),(6,i64 s.cum),(8,i64 K2)] (hrS c (zhg s.config.part t K4))) ?_ ?_
 . conv=>whnf
   rcases List.eq_nil_or_concat K4 with rfl | ⟨L,z,rfl⟩
   case inl =>
    conv=>whnf
    refine sDm ?_
    exact ⟨⟨⟩,(hle_Z [950] [(2,some 2),(3,some 3),(4,some 4)] (by repeat' (first | exact z0 | refine z1 ?_ | refine ⟨?_,?_⟩ | ((exact zbg rfl)) | exact z2)))⟩
   rw [List.concat_eq_append] at hlo ⊢
   have hUe:zhg s.config.part t (L++[z])=if z > t.recover then upS t s.config.part w else t:=by
    unfold zhg
    rw [List.getLast?_concat]
    dsimp only
    rw [upS,setAt,hw]
   have hll:((L++[z]).map (fun n:Int=>[pi n])).length=L.length+1:=by simp
   have hLl:L.length < 2 ^ 38:=by
    have:=hlo
    rw [List.length_append] at this
    simp only [List.length_cons,List.length_nil] at this
    omega
   refine zad (decide_eq_true (by omega)) ?_;conv=>whnf
   refine sFm ?_
   refine zaj (f:=fun n:Int=>[pi n]) (a:=L) (b:=[]) (s:=z) rfl (by omega) ?_;conv=>whnf
   refine sDm ?_
   by_cases e0:z > t.recover
   case neg =>
    rw [if_neg e0] at hUe
    refine zab (decide_eq_false e0) ?_;conv=>whnf
    exact ⟨⟨⟩,(hle_Z [950] [(2,some 2),(3,some 3),(4,some 4)] (by repeat' (first | exact z0 | refine z1 ?_ | refine ⟨?_,?_⟩ | ((rw [hUe])) | exact z2)))⟩
   rw [if_pos e0] at hUe
   refine zad (decide_eq_true e0) ?_;conv=>whnf
   have pc:=Paths.zgc t.paths (by omega)
   rw [hch] at pc
   (refine cL ?_;refine dLm pc ?_)
   refine zaa (by rw [List.length_map];omega) ?_;conv=>whnf
   refine zai hw rfl ?_;conv=>whnf
   (refine cL ?_;refine dLm (Paths.zly w t.config.part) ?_)
   refine zaa (by rw [List.length_map];omega) ?_;conv=>whnf
   refine zai hw rfl ?_;conv=>whnf
   refine sDm ?_
   refine sRm ?_
   have hr:(t.paths.map Path.row).set (choose t) (Paths.halved w t.config.part).row=(upS t t.config.part w).paths.map Path.row:=by rw [upS];dsimp only;rw [List.map_set]
   exact ⟨⟨⟩,(hle_Z [950] [(2,some 2),(3,some 3),(4,some 4)] (by repeat' (first | exact z0 | refine z1 ?_ | refine ⟨?_,?_⟩ | ((rw [hUe,<- htp];exact congrArg (fun r=>HSlot.live (.cells 32 (sndC (upS t t.config.part w) (Sch.qs t.queue) (ints t.sched.had) (Sco.sents t.out) (.p (.sl 7 r)) (ints t.mids) (ints t.fates)))) hr)) | exact z2)))⟩
 rintro ⟨⟩
 have hu:=hU t hTS
 generalize hug:zhg s.config.part t K4=u at hT hu
 conv=>whnf
 refine hcut.meet PUnit (fun _=>hs 215 [(2,.ptr 2 0),(3,.ptr 3 0),(4,.ptr 4 0)] (hrS c (zel (decide (K2 > s.cum)) u))) ?_ ?_
 . conv=>whnf
   (refine cP ?_;refine dLm (Sco.zhd u.out u.cum hu.fit.out.len) ?_)
   by_cases m1:K2 > s.cum
   case neg =>
    have hv:zel (decide (K2 > s.cum)) u=u:=if_neg (fun h=>m1 (of_decide_eq_true h.1))
    refine zab (decide_eq_false m1) ?_;conv=>whnf
    exact ⟨⟨⟩,(hle_X [(2,some 2),(3,some 3),(4,some 4)] (by repeat' (first | exact z0 | refine z1 ?_ | refine ⟨?_,?_⟩ | ((rw [hv])) | exact z2)))⟩
   refine zad (decide_eq_true m1) ?_;conv=>whnf
   by_cases m2:(Sco.point u.out u.cum).1 > u.cum
   case neg =>
    have hv:zel (decide (K2 > s.cum)) u=u:=if_neg (fun h=>m2 h.2)
    refine zab (decide_eq_false m2) ?_;conv=>whnf
    exact ⟨⟨⟩,(hle_X [(2,some 2),(3,some 3),(4,some 4)] (by repeat' (first | exact z0 | refine z1 ?_ | refine ⟨?_,?_⟩ | ((rw [hv])) | exact z2)))⟩
   have hv:zel (decide (K2 > s.cum)) u={ u with forward:=true }:=if_pos ⟨decide_eq_true m1,m2⟩
   refine zad (decide_eq_true m2) ?_;conv=>whnf
   exact ⟨⟨⟩,(hle_X [(2,some 2),(3,some 3),(4,some 4)] (by repeat' (first | exact z0 | refine z1 ?_ | refine ⟨?_,?_⟩ | ((rw [hv])) | exact z2)))⟩
 rintro ⟨⟩
 have hv:=zwk hu (b:=decide (K2 > s.cum))
 generalize zel (decide (K2 > s.cum)) u=V at hT hv
 have hvq:=hv.fit.queue
 have hvo:=hv.fit.out.len
 have hvf:=hv.fit.fates
 conv=>whnf
 refine ⟨{ x:List Int × List Int // V.fates=x.1++x.2 },fun | ⟨(A,B),_⟩=>hs 215 [(2,.ptr 2 0),(3,.ptr 3 0),(4,.ptr 4 0),(17,.own 900),(159,ints V.fates),(160,i64 V.fates.length),(161,i64 A.length)] ((900,rowT (A.mapIdx fun id f=>settled V id f)) :: hrS c V),fun x=>x.1.2.length,⟨([],V.fates),rfl⟩,?_,?_⟩
 . exact (hle_Q [(2,some 2),(3,some 3),(4,some 4),(900,none)])
 rintro ⟨⟨A,B⟩,h⟩
 dsimp only at h
 refine zbk fun Q hQ=>?_
 conv=>whnf
 cases B with
 | nil =>
  have hz:=zaz h
  rw [List.append_nil] at h
  refine sN ?_
  refine hQ _ _ ?_;conv=>whnf
  subst hT
  have he:(settle V).fates=V.fates.mapIdx fun id f=>settled V id f:=rfl
  rw [show settle V={ V with fates:=A.mapIdx fun id f=>settled V id f } by rw [<- h];rfl]
  try rfl
 | cons f B =>
 have hz:=zar h
 have hmi:(A++[f]).mapIdx (fun id f=>settled V id f)=A.mapIdx (fun id f=>settled V id f)++[settled V A.length f]:=List.mapIdx_concat
 have hset:settled V A.length f=if f=1 /\ ((V.queue.any fun m=>decide (m.id=(A.length:Int))) || V.out.any fun x=>decide (x.id=(A.length:Int)) && decide (x.state ≠ 2))=false then 2 else f:=by
  unfold settled
  simp only [Bool.or_eq_false_iff]
 refine sT ?_
 refine zaj (f:=fun n:Int=>[pi n]) h rfl ?_;conv=>whnf
 (try (refine hcut.go ?_;conv=>whnf))
 refine ⟨{ x:List Queued × List Queued // V.queue=x.1++x.2 },fun | ⟨(a,b),_⟩=>hs 215 [(2,.ptr 2 0),(3,.ptr 3 0),(4,.ptr 4 0),(17,.own 900),(18,i64 A.length),(19,i64 f),(20,hbool (a.any fun m=>decide (m.id=(A.length:Int)))),(159,ints V.fates),(160,i64 V.fates.length),(161,i64 A.length),(167,Sch.qs V.queue),(168,i64 V.queue.length),(169,i64 a.length)] ((900,rowT (A.mapIdx fun id f=>settled V id f)) :: hrS c V),fun x=>x.1.2.length,⟨([],V.queue),rfl⟩,?_,?_⟩
 . exact (hle_Q [(2,some 2),(3,some 3),(4,some 4),(900,some 900)])
 rintro ⟨⟨a,b⟩,h'⟩
 dsimp only at h'
 refine zbk fun Q2 hQ2=>?_
 conv=>whnf
 cases b with
 | cons m b =>
  have hz':=zar h'
  have hany:(a++[m]).any (fun m=>decide (m.id=(A.length:Int)))=(a.any (fun m=>decide (m.id=(A.length:Int))) || (m.id == (A.length:Int))):=by rw [List.any_append,List.any_cons,List.any_nil,Bool.or_false];rfl
  refine sT ?_
  refine zaj h' rfl ?_;conv=>whnf
  (try (refine hcut.go ?_;conv=>whnf))
  cases hb:a.any fun m=>decide (m.id=(A.length:Int)) with
  | true =>
   rw [hb] at hany
   conv=>whnf
   refine sF ?_
   refine hQ2 _ _ ?_;conv=>whnf
   exact ⟨⟨(a++[m],b),zae h'⟩,(hle_X [(2,some 2),(3,some 3),(4,some 4),(900,some 900)] (by repeat' (first | exact z0 | refine z1 ?_ | refine ⟨?_,?_⟩ | ((rw [hany];rfl)) | exact z2))),by simp⟩
  | false =>
   rw [hb,Bool.false_or] at hany
   conv=>whnf
   refine sF ?_
   refine hQ2 _ _ ?_;conv=>whnf
   exact ⟨⟨(a++[m],b),zae h'⟩,(hle_X [(2,some 2),(3,some 3),(4,some 4),(900,some 900)] (by repeat' (first | exact z0 | refine z1 ?_ | refine ⟨?_,?_⟩ | ((rw [hany])) | exact z2))),by simp⟩
 | nil =>
 have hz':=zaz h'
 rw [List.append_nil] at h'
 refine sN ?_
 refine hQ2 _ _ ?_;conv=>whnf
 obtain rfl:a=V.queue:=h'.symm
 obtain ⟨q,hq⟩:∃ q,q=V.queue.any fun m=>decide (m.id=(A.length:Int)):=⟨_,rfl⟩
 rw [<- hq] at hset
 (try (refine hcut.go ?_;conv=>whnf))
 refine ⟨{ x:List Sent × List Sent // V.out=x.1++x.2 },fun | ⟨(a,b),_⟩=>hs 215 [(2,.ptr 2 0),(3,.ptr 3 0),(4,.ptr 4 0),(17,.own 900),(18,i64 A.length),(19,i64 f),(20,hbool (q || a.any fun x=>decide (x.id=(A.length:Int)) && decide (x.state ≠ 2))),(159,ints V.fates),(160,i64 V.fates.length),(161,i64 A.length),(182,Sco.sents V.out),(183,i64 V.out.length),(184,i64 a.length)] ((900,rowT (A.mapIdx fun id f=>settled V id f)) :: hrS c V),fun x=>x.1.2.length,⟨([],V.out),rfl⟩,?_,?_⟩
 . exact (hle_X [(2,some 2),(3,some 3),(4,some 4),(900,some 900)] (by repeat' (first | exact z0 | refine z1 ?_ | refine ⟨?_,?_⟩ | ((rw [List.any_nil,Bool.or_false,hq])) | exact z2)))
 rintro ⟨⟨a',b⟩,h2'⟩
 dsimp only at h2'
 refine zbk fun Q3 hQ3=>?_
 conv=>whnf
 cases b with
 | cons x b =>
  have hz2:=zar h2'
  have hany:(q || (a'++[x]).any fun x=>decide (x.id=(A.length:Int)) && decide (x.state ≠ 2))=((q || a'.any fun x=>decide (x.id=(A.length:Int)) && decide (x.state ≠ 2)) || ((x.id == (A.length:Int)) && (x.state != 2))):=by
   rw [List.any_append,Bool.or_assoc]
   congr 2
   rw [List.any_cons,List.any_nil,Bool.or_false,Bool.eq_iff_iff];simp
  refine sT ?_
  refine zaj h2' rfl ?_;conv=>whnf
  (try (refine hcut.go ?_;conv=>whnf))
  cases hb:(q || a'.any fun x=>decide (x.id=(A.length:Int)) && decide (x.state ≠ 2)) with
  | true =>
   rw [hb] at hany
   conv=>whnf
   refine sF ?_
   refine hQ3 _ _ ?_;conv=>whnf
   exact ⟨⟨(a'++[x],b),zae h2'⟩,(hle_X [(2,some 2),(3,some 3),(4,some 4),(900,some 900)] (by repeat' (first | exact z0 | refine z1 ?_ | refine ⟨?_,?_⟩ | ((rw [hany];rfl)) | exact z2))),by simp⟩
  | false =>
   rw [hb,Bool.false_or] at hany
   conv=>whnf
   by_cases e1:x.id=(A.length:Int)
   case pos =>
    rw [show (x.id == (A.length:Int))=true from beq_iff_eq.2 e1,Bool.true_and] at hany
    refine zad (beq_iff_eq.2 e1) ?_;conv=>whnf
    refine sF ?_
    refine hQ3 _ _ ?_;conv=>whnf
    exact ⟨⟨(a'++[x],b),zae h2'⟩,(hle_X [(2,some 2),(3,some 3),(4,some 4),(900,some 900)] (by repeat' (first | exact z0 | refine z1 ?_ | refine ⟨?_,?_⟩ | ((rw [hany])) | exact z2))),by simp⟩
   case neg =>
    rw [show (x.id == (A.length:Int))=false from beq_eq_false_iff_ne.2 e1,Bool.false_and] at hany
    refine zab (beq_eq_false_iff_ne.2 e1) ?_;conv=>whnf
    refine sF ?_
    refine hQ3 _ _ ?_;conv=>whnf
    exact ⟨⟨(a'++[x],b),zae h2'⟩,(hle_X [(2,some 2),(3,some 3),(4,some 4),(900,some 900)] (by repeat' (first | exact z0 | refine z1 ?_ | refine ⟨?_,?_⟩ | ((rw [hany])) | exact z2))),by simp⟩
 | nil =>
 have hz2:=zaz h2'
 rw [List.append_nil] at h2'
 refine sN ?_
 refine hQ3 _ _ ?_;conv=>whnf
 obtain rfl:a'=V.out:=h2'.symm
 (try (refine hcut.go ?_;conv=>whnf))
 by_cases d1:f=1
 case neg =>
  rw [if_neg (fun h=>d1 h.1)] at hset
  refine zab (beq_eq_false_iff_ne.2 d1) ?_;conv=>whnf
  (try (refine hcut.go ?_;conv=>whnf))
  refine zaa (c:=(((A.mapIdx fun id f=>settled V id f).map fun n:Int=>[pi n]).length+1) * 8 <= 140737488355328) (by rw [List.length_map,List.length_mapIdx];omega) ?_;conv=>whnf
  refine sF ?_
  refine hQ _ _ ?_;conv=>whnf
  exact ⟨⟨(A++[f],B),zae h⟩,(hle_X [(2,some 2),(3,some 3),(4,some 4),(900,some 210)] (by repeat' (first | exact z0 | refine z1 ?_ | refine ⟨?_,?_⟩ | ((exact zat (f:=fun n:Int=>[pi n]) (hmi.trans (by rw [hset])) rfl)) | exact z2))),by simp⟩
 refine zad (beq_iff_eq.2 d1) ?_;conv=>whnf
 cases ho:(q || V.out.any fun x=>decide (x.id=(A.length:Int)) && decide (x.state ≠ 2)) with
 | true =>
  rw [ho] at hset
  rw [if_neg (fun h=>Bool.noConfusion h.2)] at hset
  conv=>whnf
  (try (refine hcut.go ?_;conv=>whnf))
  refine zaa (c:=(((A.mapIdx fun id f=>settled V id f).map fun n:Int=>[pi n]).length+1) * 8 <= 140737488355328) (by rw [List.length_map,List.length_mapIdx];omega) ?_;conv=>whnf
  refine sF ?_
  refine hQ _ _ ?_;conv=>whnf
  exact ⟨⟨(A++[f],B),zae h⟩,(hle_X [(2,some 2),(3,some 3),(4,some 4),(900,some 210)] (by repeat' (first | exact z0 | refine z1 ?_ | refine ⟨?_,?_⟩ | ((exact zat (f:=fun n:Int=>[pi n]) (hmi.trans (by rw [hset])) rfl)) | exact z2))),by simp⟩
 | false =>
  rw [ho] at hset
  rw [if_pos ⟨d1,rfl⟩] at hset
  conv=>whnf
  (try (refine hcut.go ?_;conv=>whnf))
  refine zaa (c:=(((A.mapIdx fun id f=>settled V id f).map fun n:Int=>[pi n]).length+1) * 8 <= 140737488355328) (by rw [List.length_map,List.length_mapIdx];omega) ?_;conv=>whnf
  refine sF ?_
  refine hQ _ _ ?_;conv=>whnf
  exact ⟨⟨(A++[f],B),zae h⟩,(hle_X [(2,some 2),(3,some 3),(4,some 4),(900,some 210)] (by repeat' (first | exact z0 | refine z1 ?_ | refine ⟨?_,?_⟩ | ((exact zat (f:=fun n:Int=>[pi n]) (hmi.trans (by rw [hset])) rfl)) | exact z2))),by simp⟩
end Snd
end Go.HL
namespace Go.HL
open Go.Proofs
namespace Snd
open Ser
set_option maxHeartbeats 4000000
set_option maxRecDepth 100000
set_option linter.unusedSimpArgs false
section
variable {L:List Message} {s:Sender}
end
theorem ycl (s:Sender) (id:Nat):(giveS s id).config=s.config:=(zgs s id).1.config
theorem zws:∀ (q:List Queued) (s:Sender),(∀ m ∈ q,0 <= m.id) -> (q.foldl expQ s).config=s.config
 | [],_,_=>rfl
 | m :: q,s,h=>by
  rw [List.foldl_cons,zws q _ fun x hx=>h x (by simp [hx])]
  unfold expQ
  split
  . have:=h m (by simp)
    rw [show m.id=((m.id.toNat:Nat):Int) by omega];exact ycl s _
  . rfl
theorem zwt:∀ (q:List Sent) (s:Sender),(∀ m ∈ q,0 <= m.id) -> (q.foldl expX s).config=s.config
 | [],_,_=>rfl
 | m :: q,s,h=>by
  rw [List.foldl_cons,zwt q _ fun x hx=>h x (by simp [hx])]
  unfold expX
  split
  . have:=h m (by simp)
    rw [show m.id=((m.id.toNat:Nat):Int) by omega];exact ycl s _
  . rfl
theorem yfb {N:Nat} {s:Sender} (h:SI N s):(expire s).config=s.config:=by
 obtain ⟨h2,-⟩:=ztp s.queue s h fun m hm=>⟨(h.queue m hm).id0,(h.queue m hm).id1⟩
 unfold expire
 rw [zwt _ _ fun x hx=>(h2.out x hx).id0,zws _ _ fun m hm=>(h.queue m hm).id0]
theorem yjb (p:Pump) (i c:Nat):(fly p i c).s.config=p.s.config:=by unfold fly;split <;> rfl
theorem zrc {c:Nat}:∀ (l:List Nat) (p:Pump),(l.foldl (zbx c) p).s.config=p.s.config
 | [],_=>rfl
 | i :: l,p=>by
  rw [List.foldl_cons,zrc l]
  unfold zbx
  split
  . rfl
  . split
    . exact yjb _ _ _
    . rfl
theorem yme {p q:Pump} (h:next p=some q):q.s.config=p.s.config:=by
 obtain ⟨s,o⟩:=p
 unfold next at h
 dsimp only at h
 split at h
 . cases h
 cases hm:s.queue[(zcu s).toNat]? with
 | none=>rw [hm] at h;cases h
 | some m =>
  rw [hm] at h
  dsimp only at h
  split at h
  . cases h
  . cases h
    rw [zdy,yjb];rfl
theorem zwu:∀ (n:Nat) (p:Pump),(nexts n p).s.config=p.s.config
 | 0,_=>rfl
 | n+1,p=>by
  unfold nexts
  split
  . rfl
  . rename_i q hq;rw [zwu n q,yme hq]
theorem zzi (p:Pump):(forward p).s.config=p.s.config:=by unfold forward;split <;> rfl
theorem ymf {N:Nat} {s:Sender} (h:SI N s):(pump s).1.config=s.config:=by
 show (pumpP s).s.config=_
 unfold pumpP
 rw [zwu]
 unfold again
 rw [zrc,zzi]
 exact yfb h
theorem yjc {l:List Step} (h:bulkR (l.map Step.row) <= 1048576):(∀ x ∈ l,x.message.data.length <= 1048576) /\ l.length <= 1048576:=by
 have h1:∀ x:Step,x.message.data.length+1 <= bulkL x.row:=fun x=>by
  have h1:=zih (f:=bRow) (fun x=>by simp [bRow,bulkL,PV.bulk]) x.message.data
  simp only [Step.row,bulkL,PV.bulk];omega
 refine ⟨fun x hx=>?_,?_⟩
 . have h2:=ybj (f:=Step.row) hx
   have:=h1 x;omega
 . have:=zih (f:=Step.row) (fun x=>by have:=h1 x;omega) l
   omega
end Snd
end Go.HL
namespace Go.HL
open Go.Proofs
namespace Jn
open Srt
set_option maxHeartbeats 2000000
set_option maxRecDepth 100000
set_option linter.unusedSimpArgs false
def joinL (n:Nat):Nat -> List Piece -> Option (List UInt8)
 | _,[]=>some []
 | i,p :: r=>if p.chunk.part=(i:Int) /\ p.chunk.last=decide (i+1=n) then (joinL n (i+1) r).map (p.chunk.data++·) else none
def join (l:List Piece):Option (List UInt8):=if l=[] then none else joinL l.length 0 (srt ck l)
def at_ (k:Nat) (p:Piece):Bool:=decide (p.chunk.part=(k:Int))
def zff (l:List Piece) (n:Nat):Nat -> Nat -> Option (List UInt8)
 | _,0=>some []
 | k,m+1=>match l.filter (at_ k) with
  | [p]=>if p.chunk.last=decide (k+1=n) then (zff l n (k+1) m).map (p.chunk.data++·) else none
  | _=>none
theorem filter_one {α:Type} {f:α -> Bool} {l l':List α} (h:l.Perm l') (p:α):l.filter f=[p] ↔ l'.filter f=[p]:=by
 have:=h.filter f
 constructor
 . intro e;rw [e] at this;exact List.perm_singleton.1 this.symm
 . intro e;rw [e] at this;exact List.perm_singleton.1 this
theorem yjd {l l':List Piece} (h:l.Perm l') (n:Nat):∀ (m k:Nat),zff l n k m=zff l' n k m
 | 0,k=>rfl
 | m+1,k=>by
  have hf:=fun p=>filter_one (f:=at_ k) h p
  rw [zff,zff]
  split
  . rename_i p hp
    rw [(hf p).1 hp,yjd h n m (k+1)]
  . rename_i hno
    split
    . rename_i p hp
      exact absurd ((hf p).2 hp) (hno p)
    . rfl
theorem yje {l:List Piece} {n:Nat}:∀ {m k:Nat} {b:List UInt8},zff l n k m=some b -> ∀ i,k <= i -> i < k+m -> ∃ p ∈ l,p.chunk.part=(i:Int)
 | 0,k,b,_,i,h1,h2=>by omega
 | m+1,k,b,h,i,h1,h2=>by
  rw [zff] at h
  split at h
  . rename_i p hp
    split at h
    . obtain ⟨c,hc,-⟩:=Option.map_eq_some_iff.1 h
      by_cases he:i=k
      . subst he
        have:p ∈ l.filter (at_ i):=by rw [hp];simp
        rw [List.mem_filter] at this
        exact ⟨p,this.1,by simpa [at_] using this.2⟩
      . exact yje hc i (by omega) (by omega)
    . cases h
  . cases h
def lows (l:List Piece) (k:Nat):Nat:=l.countP fun p=>decide (p.chunk.part < (k:Int))
def highs (l:List Piece) (k:Nat):Nat:=l.countP fun p=>decide ((k:Int) <= p.chunk.part)
theorem ymg (l:List Piece) (k:Nat):lows l k+highs l k=l.length:=by
 induction l with
 | nil=>rfl
 | cons p l ih =>
  simp only [lows,highs,List.countP_cons,List.length_cons] at *
  by_cases h:p.chunk.part < (k:Int)
  . have h2:¬ (k:Int) <= p.chunk.part:=by omega
    simp [h,h2];omega
  . have h2:(k:Int) <= p.chunk.part:=by omega
    simp [h,h2];omega
theorem ycm {l:List Piece} {k:Nat} (h:∃ p ∈ l,p.chunk.part=(k:Int)):lows l k+1 <= lows l (k+1):=by
 induction l with
 | nil=>simp at h
 | cons p l ih =>
  have mono:∀ l:List Piece,l.countP (fun p=>decide (p.chunk.part < (k:Int))) <= l.countP (fun p=>decide (p.chunk.part < ((k+1:Nat):Int))):=fun l=>List.countP_mono_left fun x _ hx=>by simp at hx ⊢;omega
  simp only [lows,List.countP_cons] at ih ⊢
  by_cases he:p.chunk.part=(k:Int)
  . have:=mono l
    have h2:¬ p.chunk.part < (k:Int):=by omega
    have h3:p.chunk.part < ((k+1:Nat):Int):=by omega
    rw [if_neg (by simpa using h2),if_pos (decide_eq_true h3)];omega
  . have:∃ p ∈ l,p.chunk.part=(k:Int):=by
     obtain ⟨q,hq,e⟩:=h
     rcases List.mem_cons.1 hq with rfl | hq
     . exact absurd e he
     . exact ⟨q,hq,e⟩
    have:=ih this
    by_cases h2:p.chunk.part < (k:Int)
    . have h3:p.chunk.part < ((k+1:Nat):Int):=by omega
      rw [if_pos (decide_eq_true h2),if_pos (decide_eq_true h3)];omega
    . have h3:¬ p.chunk.part < ((k+1:Nat):Int):=by omega
      rw [if_neg (by simpa using h2),if_neg (fun h=>h3 (of_decide_eq_true h))];omega
theorem ynk {l:List Piece} {n:Nat} (h:∀ i,i < n -> ∃ p ∈ l,p.chunk.part=(i:Int)):∀ k,k <= n -> k <= lows l k
 | 0,_=>Nat.zero_le _
 | k+1,hk=>by have:=ynk h k (by omega);have:=ycm (h k (by omega));omega
theorem ynl {l:List Piece} {n:Nat} (hn:l.length=n) (h:∀ i,i < n -> ∃ p ∈ l,p.chunk.part=(i:Int)):∀ j,j <= n -> lows l (n - j) <= n - j
 | 0,_=>by have:=ymg l n;simp only [Nat.sub_zero];omega
 | j+1,hj=>by
  have h1:=ynl hn h j (by omega)
  have h2:=ycm (h (n - (j+1)) (by omega))
  rw [show n - (j+1)+1=n - j by omega] at h2
  omega
theorem ztt:∀ {S:List Piece} (_:Sd ck S) (k:Nat) (i:Nat) (hi:i < S.length),(S[i].chunk.part < (k:Int) ↔ i < lows S k)
 | x :: S,h,k,0,hi=>by
  simp only [lows,List.countP_cons,List.getElem_cons_zero]
  by_cases hx:x.chunk.part < (k:Int)
  . simp [hx]
  . have:S.countP (fun p=>decide (p.chunk.part < (k:Int)))=0:=List.countP_eq_zero.2 fun y hy=>by have:=h.1 y hy;simp;simp only [ck] at this;omega
    simp [hx,this]
 | x :: S,h,k,i+1,hi=>by
  have ih:=ztt h.2 k i (by simpa using hi)
  simp only [lows,List.countP_cons,List.getElem_cons_succ] at *
  by_cases hx:x.chunk.part < (k:Int)
  . simp [hx];exact ih
  . have:S.countP (fun p=>decide (p.chunk.part < (k:Int)))=0:=List.countP_eq_zero.2 fun y hy=>by have:=h.1 y hy;simp;simp only [ck] at this;omega
    rw [this] at ih ⊢
    simp [hx];omega
theorem zzj {S:List Piece} (hs:Sd ck S) (h:∀ i,i < S.length -> ∃ p ∈ S,p.chunk.part=(i:Int)) (i:Nat) (hi:i < S.length):S[i].chunk.part=(i:Int):=by
 have e:∀ k,k <= S.length -> lows S k=k:=fun k hk=>by
  have h1:=ynk h k hk
  have h2:=ynl rfl h (S.length - k) (by omega)
  rw [show S.length - (S.length - k)=k by omega] at h2
  omega
 have h1:=ztt hs i i hi
 have h2:=ztt hs (i+1) i hi
 rw [e i (by omega)] at h1
 rw [e (i+1) (by omega)] at h2
 omega
def zrd (i:Nat):List Piece -> Prop
 | []=>True
 | p :: r=>p.chunk.part=(i:Int) /\ zrd (i+1) r
theorem zwv:∀ {S:List Piece} {i:Nat},(∀ j (hj:j < S.length),S[j].chunk.part=((i+j:Nat):Int)) -> zrd i S
 | [],_,_=>trivial
 | p :: r,i,h=>⟨by have:=h 0 (by simp);simp only [List.getElem_cons_zero,Nat.add_zero] at this;exact this,zwv fun j hj=>by have:=h (j+1) (by simpa using hj);rw [List.getElem_cons_succ] at this;rw [this];congr 1;omega⟩
theorem zww:∀ {S:List Piece} {i:Nat},zrd i S -> ∀ p ∈ S,(i:Int) <= p.chunk.part
 | q :: r,i,h,p,hp=>by
  rcases List.mem_cons.1 hp with rfl | hp
  . rw [h.1];omega
  . have:=zww h.2 p hp;omega
theorem zre {n:Nat}:∀ {S:List Piece} {i:Nat} {b:List UInt8},joinL n i S=some b -> zrd i S
 | [],_,_,_=>trivial
 | p :: r,i,b,h=>by
  rw [joinL] at h
  split at h
  . rename_i c
    obtain ⟨d,hd,-⟩:=Option.map_eq_some_iff.1 h
    exact ⟨c.1,zre hd⟩
  . cases h
theorem filter_none {A:List Piece} {k:Nat} (h:∀ p ∈ A,p.chunk.part ≠ (k:Int)):A.filter (at_ k)=[] :=
 List.filter_eq_nil_iff.2 fun p hp=>by simpa [at_] using h p hp
theorem zzk {S:List Piece} {n:Nat}:∀ {B A:List Piece} {i:Nat},S=A++B -> (∀ p ∈ A,p.chunk.part < (i:Int)) -> zrd i B -> zff S n i B.length=joinL n i B
 | [],A,i,_,_,_=>rfl
 | p :: B,A,i,hS,hA,hB=>by
  have hf:S.filter (at_ i)=[p]:=by
   rw [hS,List.filter_append,filter_none fun q hq=>by have:=hA q hq;omega,List.filter_cons,if_pos (by simpa [at_] using hB.1),filter_none fun q hq=>by have:=zww hB.2 q hq;omega]
   rfl
  rw [List.length_cons,zff,hf]
  have ih:=zzk (S:=S) (n:=n) (B:=B) (A:=A++[p]) (i:=i+1) (by rw [hS];simp) (fun q hq=>by
   rcases List.mem_append.1 hq with hq | hq
   . have:=hA q hq;omega
   . rw [List.mem_singleton.1 hq,hB.1];omega) hB.2
  dsimp only
  rw [ih,joinL]
  by_cases c:p.chunk.last=decide (i+1=n)
  . rw [if_pos c,if_pos ⟨hB.1,c⟩]
  . rw [if_neg c,if_neg fun h=>c h.2]
theorem rj_eq (l:List Piece):zff l l.length 0 l.length=joinL l.length 0 (srt ck l):=by
 have hl:=yee (key:=ck) l
 rw [yjd (zmx (key:=ck) (l:=l)).symm]
 have hs:=ynd (key:=ck) (l:=l)
 generalize srt ck l=S at *
 rw [<- hl]
 clear hl
 cases hr:zff S S.length 0 S.length with
 | some b =>
  have:=zzj hs fun i hi=>yje hr i (by omega) (by omega)
  have ht:zrd 0 S:=zwv fun j hj=>by rw [this j hj];simp
  rw [<- hr];exact zzk (A:=[]) rfl (by simp) ht
 | none =>
  cases hj:joinL S.length 0 S with
  | none=>rfl
  | some b =>
   have:=zzk (S:=S) (n:=S.length) (A:=[]) rfl (by simp) (zre hj)
   rw [hr,hj] at this;cases this
def tot (l:List Piece):Nat:=(l.map fun p=>p.chunk.data.length).sum
theorem ymh {l l':List Piece} (h:l.Perm l'):tot l=tot l':=(h.map _).sum_nat
theorem zet (p:Piece) (l:List Piece):tot (p :: l)=p.chunk.data.length+tot l:=rfl
theorem ztu (a b:List Piece):tot (a++b)=tot a+tot b:=by simp [tot]
theorem yow {l:List Piece} {p:Piece} (h:p ∈ l):p.chunk.data.length <= tot l:=by
 induction l with
 | nil=>cases h
 | cons q l ih =>
  rw [zet]
  rcases List.mem_cons.1 h with rfl | h
  . omega
  . have:=ih h;omega
abbrev pieces (l:List Piece):HV:=.p (.sl 12 (l.map Piece.row))
theorem yjf {x:HV} {a b:Bool} (h:a=b):HV.tup [x,hbool a]=HV.tup [x,hbool b]:=by rw [h]
def Found (k:Nat) (a:List Piece) (z:Int):Prop:=(a.filter (at_ k)=[] /\ z=-1) \/ ∃ a1 p a2,a=a1++p :: a2 /\ z=(a1.length:Nat) /\ a.filter (at_ k)=[p]
theorem yfc (l:List Piece) (hb:l.length < 2 ^ 22) (ht:tot l < 2 ^ 22) :
 FunOK Tryz.prog 193 [pieces l] zac (.tup [.own 0,hbool (join l).isSome]) (lk .free [(0,.live (.row 5 1 (((join l).getD []).map bRow)))]):=by
 refine zal mixed Tryz.func193 (by decide) [] (fun _=>.inl rfl) ?_
 have hj:join l=if l=[] then none else zff l l.length 0 l.length:=by rw [join,rj_eq]
 conv=>whnf
 refine ⟨{ x:Nat × Nat × List UInt8 // x.1+x.2.1=l.length /\ zff l l.length 0 l.length=(zff l l.length x.1 x.2.1).map (x.2.2++·) /\ x.2.2.length <= x.1 * 4194304 },fun | ⟨(k,m,acc),_⟩=>hs 59 [(0,pieces l),(4,.own 900),(10,i64 l.length),(11,i64 k)] [(900,.live (.row 5 1 (acc.map bRow)))],fun x=>x.1.2.1,⟨(0,l.length,[]),by simp,by simp,by simp⟩,?_,?_⟩
 . exact (hle_Q [(900,none)])
 rintro ⟨⟨k,m,acc⟩,h1,h2,h3⟩
 dsimp only at h1 h2 h3
 conv=>whnf
 cases m with
 | zero =>
  rw [zff] at h2
  refine sN ?_
  by_cases hln:l=[]
  . subst hln
    have:acc=[]:=List.eq_nil_of_length_eq_zero (by have:k=0:=h1;omega)
    subst this
    refine zau [(0,some 900)] rfl rfl trivial rfl (yjf ?_) ⟨⟨rfl,.inl ⟨900,rfl,rfl⟩⟩,trivial⟩
    rfl
  . have:=List.length_pos_iff.2 hln
    have hjv:join l=some acc:=by rw [hj,if_neg hln,h2];simp
    rw [hjv]
    refine zau [(0,some 900)] rfl rfl trivial rfl (yjf ?_) ⟨⟨rfl,.inl ⟨900,rfl,rfl⟩⟩,trivial⟩
    simp;omega
 | succ m =>
  have hln:l ≠ []:=fun h=>by subst h;have h1:k+(m+1)=0:=h1;omega
  rw [if_neg hln] at hj
  rw [zff] at h2
  refine sT ?_
  refine ⟨{ x:(List Piece × List Piece) × Int // l=x.1.1++x.1.2 /\ Found k x.1.1 x.2 },fun | ⟨((a,b),z),_⟩=>hs 59 [(0,pieces l),(4,.own 900),(5,i64 k),(6,i64 z),(10,i64 l.length),(11,i64 k),(14,pieces l),(15,i64 l.length),(16,i64 a.length)] [(900,.live (.row 5 1 (acc.map bRow)))],fun x=>x.1.1.2.length,⟨(([],l),-1),rfl,.inl ⟨rfl,rfl⟩⟩,?_,?_⟩
  . exact (hle_Q [(900,some 900)])
  rintro ⟨⟨⟨a,b⟩,z⟩,g1,g2⟩
  dsimp only at g1 g2
  have hl:l.length=a.length+b.length:=by rw [g1];simp
  conv=>whnf
  cases b with
  | cons p b =>
   rw [List.length_cons] at hl
   refine sT ?_
   refine zaj g1 (by simp) ?_;conv=>whnf
   by_cases c:p.chunk.part=(k:Int)
   . have hat:at_ k p=true:=by simpa [at_] using c
     refine zad (by simpa using c) ?_;conv=>whnf
     try (refine hcut.go ?_;conv=>whnf)
     rcases g2 with ⟨f1,rfl⟩ | ⟨a1,q,a2,f1,rfl,f2⟩
     . conv=>whnf
       try (refine hcut.go ?_;conv=>whnf)
       refine sF ?_
       exact ⟨⟨((a++[p],b),(a.length:Nat)),by rw [g1];simp,.inr ⟨a,p,[],by simp,rfl,by rw [List.filter_append,f1,List.filter_cons,if_pos hat];rfl⟩⟩,(hle_Q [(900,some 900)]),by simp⟩
     . have hjv:join l=none:=by
        rw [hj,h2,g1,List.filter_append,f2,List.filter_cons,if_pos hat];rfl
       conv=>whnf
       try (refine hcut.go ?_;conv=>whnf)
       rw [hjv]
       refine zau [(0,none)] rfl rfl trivial rfl rfl ⟨⟨rfl,.inr ⟨rfl,rfl⟩⟩,trivial⟩
   . have hat:¬ at_ k p=true:=by simpa [at_] using c
     refine zab (by simpa using c) ?_;conv=>whnf
     try (refine hcut.go ?_;conv=>whnf)
     refine sF ?_
     refine ⟨⟨((a++[p],b),z),by rw [g1];simp,?_⟩,(hle_Q [(900,some 900)]),by simp⟩
     rcases g2 with ⟨f1,f0⟩ | ⟨a1,q,a2,f1,f0,f2⟩
     . exact .inl ⟨by rw [List.filter_append,f1,List.filter_cons,if_neg hat];rfl,f0⟩
     . exact .inr ⟨a1,q,a2++[p],by rw [f1];simp,f0,by rw [List.filter_append,f2,List.filter_cons,if_neg hat];rfl⟩
  | nil =>
   rw [List.length_nil] at hl
   rw [List.append_nil] at g1
   refine sN ?_
   rcases g2 with ⟨f1,rfl⟩ | ⟨a1,q,a2,f1,rfl,f2⟩
   . have hjv:join l=none:=by rw [hj,h2,g1,f1];rfl
     conv=>whnf
     try (refine hcut.go ?_;conv=>whnf)
     rw [hjv]
     refine zau [(0,none)] rfl rfl trivial rfl rfl ⟨⟨rfl,.inr ⟨rfl,rfl⟩⟩,trivial⟩
   . have hq:q.chunk.data.length <= tot l:=yow (by rw [g1,f1];simp)
     have e:((k:Int) == ((l.map Piece.row).length:Int) - 1)=decide (k+1=l.length):=by
      rw [List.length_map,Bool.eq_iff_iff];simp;omega
     rw [g1,f2] at h2
     dsimp only at h2
     rw [<- g1] at h2
     conv=>whnf
     refine zaj (show l=a1++q :: a2 by rw [g1,f1]) rfl ?_;conv=>whnf
     refine sF ?_
     by_cases c2:q.chunk.last=decide (k+1=l.length)
     . rw [if_pos c2] at h2
       refine zab (by rw [e,c2];simp) ?_;conv=>whnf
       try (refine hcut.go ?_;conv=>whnf)
       refine zaj (show l=a1++q :: a2 by rw [g1,f1]) rfl ?_;conv=>whnf
       refine zaa (c:=((acc.map bRow).length+(q.chunk.data.map bRow).length) * 1 <= 140737488355328) (by simp;omega) ?_;conv=>whnf
       try (refine hcut.go ?_;conv=>whnf)
       refine sF ?_
       refine ⟨⟨(k+1,m,acc++q.chunk.data),by dsimp only;omega,by dsimp only;rw [h2,Option.map_map];congr 1;funext x;simp,by simp;omega⟩,(hle_X [(900,some 53)] (by repeat' (first | exact z0 | refine z1 ?_ | refine ⟨?_,?_⟩ | ((exact zao (by simp))) | exact z2))),by simp⟩
     . rw [if_neg c2] at h2
       have hjv:join l=none:=by rw [hj,h2];rfl
       refine zad (by rw [e];cases hp:q.chunk.last <;> cases hd:decide (k+1=l.length) <;> simp_all) ?_;conv=>whnf
       try (refine hcut.go ?_;conv=>whnf)
       rw [hjv]
       refine zau [(0,none)] rfl rfl trivial rfl rfl ⟨⟨rfl,.inr ⟨rfl,rfl⟩⟩,trivial⟩
end Jn
end Go.HL
namespace Go.HL
namespace Ser
set_option linter.unusedSimpArgs false
def rise:List Span -> Prop
 | []=>True
 | s :: r=>s.lo <= s.hi /\ -9223372036854775808 <= s.lo /\ s.hi <= 9223372036854775807 /\ (∀ t ∈ r,s.hi+1 < t.lo) /\ rise r
theorem zgf:∀ {a b:List Span},rise (a++b) ↔ rise a /\ rise b /\ ∀ s ∈ a,∀ t ∈ b,s.hi+1 < t.lo
 | [],b=>by simp [rise]
 | s :: a,b=>by
  simp only [List.cons_append,rise,zgf (a:=a) (b:=b),List.mem_append,List.mem_cons]
  constructor
  . rintro ⟨h1,h2,h3,h4,h5,h6,h7⟩
    exact ⟨⟨h1,h2,h3,fun t ht=>h4 t (.inl ht),h5⟩,h6,fun x hx t ht=>by rcases hx with rfl | hx;exact h4 t (.inr ht);exact h7 x hx t ht⟩
  . rintro ⟨⟨h1,h2,h3,h4,h5⟩,h6,h7⟩
    exact ⟨h1,h2,h3,fun t ht=>by rcases ht with ht | ht;exact h4 t ht;exact h7 s (.inl rfl) t ht,h5,h6,fun x hx t ht=>h7 x (.inr hx) t ht⟩
theorem zkl:∀ {l:List Span},rise l -> ∀ s ∈ l,s.lo <= s.hi /\ -9223372036854775808 <= s.lo /\ s.hi <= 9223372036854775807
 | s :: r,h,t,ht=>by
  rcases List.mem_cons.1 ht with rfl | ht
  . exact ⟨h.1,h.2.1,h.2.2.1⟩
  . exact zkl h.2.2.2.2 t ht
theorem zzl {l:List Span} {n:Int}:has l n=true ↔ ∃ s ∈ l,s.lo <= n /\ n <= s.hi:=by
 simp [has,List.any_eq_true]
theorem ypu {l:List Span} {n:Int}:has l n=false ↔ ∀ s ∈ l,¬ (s.lo <= n /\ n <= s.hi):=by
 rw [<- Bool.not_eq_true,zzl];simp
theorem zzm (a b:List Span) (n:Int):has (a++b) n=(has a n || has b n):=by simp [has]
theorem ztv (s:Span) (b:List Span) (n:Int):has (s :: b) n=((decide (s.lo <= n) && decide (n <= s.hi)) || has b n):=by simp [has]
def lowB (n:Int) (s:Span):Bool:=decide (s.hi < n)
def below (l:List Span) (n:Int):List Span:=l.takeWhile (lowB n)
def above (l:List Span) (n:Int):List Span:=l.dropWhile (lowB n)
def cutL (n:Int) (a:List Span):List Span × Int:=match a.getLast? with
 | some s=>if s.hi=n - 1 then (a.dropLast,s.lo) else (a,n)
 | none=>(a,n)
def cutR (n:Int):List Span -> Int × List Span
 | t :: r=>if t.lo=n+1 then (t.hi,r) else (n,t :: r)
 | []=>(n,[])
def add (l:List Span) (n:Int):List Span :=
 if has l n then l else (cutL n (below l n)).1++⟨(cutL n (below l n)).2,(cutR n (above l n)).1⟩ :: (cutR n (above l n)).2
theorem split (l:List Span) (n:Int):l=below l n++above l n:=(List.takeWhile_append_dropWhile).symm
theorem ycn {l:List Span} {n:Int}:∀ s ∈ below l n,s.hi < n:=fun s hs=>by
 have:=List.all_eq_true.1 (List.all_takeWhile (p:=lowB n) (l:=l)) s hs
 simpa [lowB] using this
theorem yco {l:List Span} {n:Int} (h:rise l) (hn:has l n=false):∀ s ∈ above l n,n < s.lo:=by
 intro s hs
 have hsp:=split l n
 have hr:rise (above l n):=by rw [hsp] at h;exact (zgf.1 h).2.1
 have hno:∀ t ∈ above l n,¬ (t.lo <= n /\ n <= t.hi):=fun t ht=>ypu.1 hn t (by rw [hsp];exact List.mem_append_right _ ht)
 have hhd:∀ t r,above l n=t :: r -> ¬ t.hi < n:=by
  intro t r e hlt
  have:=List.head?_dropWhile_not (lowB n) l
  rw [show l.dropWhile (lowB n)=t :: r from e] at this
  simp [lowB] at this;omega
 cases ha:above l n with
 | nil=>rw [ha] at hs;simp at hs
 | cons t r =>
  have h1:=hhd t r ha
  have h2:=hno t (by rw [ha];simp)
  rw [ha] at hr hs
  have h3:=hr.1
  rcases List.mem_cons.1 hs with rfl | hs
  . omega
  . have:=hr.2.2.2.1 s hs;omega
theorem yjg {a:List Span} {n:Int} (h:rise a) (hn:∀ s ∈ a,s.hi < n) :
 (cutL n a).2 <= n /\ (∀ s ∈ (cutL n a).1,s.hi+1 < (cutL n a).2) /\ rise (cutL n a).1 /\ (-9223372036854775808 <= n -> -9223372036854775808 <= (cutL n a).2) /\ ∀ m,(has (cutL n a).1 m || (decide ((cutL n a).2 <= m) && decide (m < n)))=has a m:=by
 rcases List.eq_nil_or_concat a with rfl | ⟨a',s,rfl⟩
 . simp [cutL,rise,has]
   intro m hm;exact of_decide_eq_true hm
 . rw [List.concat_eq_append] at h hn ⊢
   have hs:=hn s (by simp)
   have hr:=zgf.1 h
   have h3:∀ x ∈ a',x.hi+1 < s.lo:=fun x hx=>hr.2.2 x hx s (by simp)
   have h4:=hr.2.1.1
   simp only [cutL,List.getLast?_concat]
   split
   . rename_i he
     simp only [List.dropLast_concat]
     refine ⟨by omega,h3,hr.1,fun _=>hr.2.1.2.1,fun m=>?_⟩
     rw [zzm,ztv]
     have:decide (m < n)=decide (m <= s.hi):=by rw [decide_eq_decide];omega
     rw [this];simp [has]
   . rename_i he
     refine ⟨Int.le_refl _,fun x hx=>?_,h,fun h=>h,fun m=>?_⟩
     . rcases List.mem_append.1 hx with hx | hx
       . have:=h3 x hx;dsimp only;omega
       . rw [List.mem_singleton.1 hx];dsimp only;omega
     . have:(decide (n <= m) && decide (m < n))=false:=by simp <;> omega
       dsimp only
       rw [this,Bool.or_false]
theorem yjh {b:List Span} {n:Int} (h:rise b) (hn:∀ s ∈ b,n < s.lo) :
 n <= (cutR n b).1 /\ (∀ s ∈ (cutR n b).2,(cutR n b).1+1 < s.lo) /\ rise (cutR n b).2 /\ (n <= 9223372036854775807 -> (cutR n b).1 <= 9223372036854775807) /\ ∀ m,(has (cutR n b).2 m || (decide (n < m) && decide (m <= (cutR n b).1)))=has b m:=by
 cases b with
 | nil =>
  simp [cutR,rise,has]
  intro m hm;exact decide_eq_false (by omega)
 | cons t r =>
  have ht:=hn t (by simp)
  simp only [cutR]
  split
  . rename_i he
    refine ⟨by have:=h.1;dsimp only;omega,h.2.2.2.1,h.2.2.2.2,fun _=>h.2.2.1,fun m=>?_⟩
    rw [ztv,Bool.or_comm]
    congr 2
    rw [decide_eq_decide];omega
  . rename_i he
    refine ⟨Int.le_refl _,fun x hx=>?_,h,fun h=>h,fun m=>?_⟩
    . rcases List.mem_cons.1 hx with rfl | hx
      . dsimp only;omega
      . have:=h.2.2.2.1 x hx;have:=h.1;dsimp only;omega
    . have:(decide (n < m) && decide (m <= n))=false:=by simp
      dsimp only
      rw [this,Bool.or_false]
theorem ztw {l:List Span} {n:Int} (h:rise l) (h1:-9223372036854775808 <= n) (h2:n <= 9223372036854775807):rise (add l n) /\ ∀ m,has (add l n) m=(has l m || decide (m=n)):=by
 unfold add
 cases hn:has l n with
 | true =>
  refine ⟨h,fun m=>?_⟩
  by_cases hm:m=n
  . subst hm;simp [hn]
  . simp [hm]
 | false =>
  simp only [Bool.false_eq_true,if_false]
  have hsp:=split l n
  have hab:=h
  rw [hsp] at hab
  obtain ⟨ra,rb,rab⟩:=zgf.1 hab
  obtain ⟨a1,a2,a3,a4,a5⟩:=yjg ra ycn
  obtain ⟨b1,b2,b3,b4,b5⟩:=yjh rb (yco h hn)
  have a4:=a4 h1
  have b4:=b4 h2
  have b6:∀ s ∈ (cutR n (above l n)).2,n < s.lo:=fun s hs=>by have:=b2 s hs;omega
  refine ⟨zgf.2 ⟨a3,⟨by dsimp only;omega,a4,b4,b2,b3⟩,fun s hs t ht=>?_⟩,fun m=>?_⟩
  . rcases List.mem_cons.1 ht with rfl | ht
    . exact a2 s hs
    . have:=a2 s hs;have:=b6 t ht;omega
  . have e:has l m=(has (below l n) m || has (above l n) m):=by rw [<- zzm,<- hsp]
    rw [zzm,ztv,e,<- a5 m,<- b5 m]
    generalize has (cutL n (below l n)).1 m=A
    generalize has (cutR n (above l n)).2 m=B
    dsimp only
    rcases Int.lt_trichotomy m n with hlt | rfl | hgt
    . have e1:decide (m < n)=true:=by simpa using hlt
      have e2:decide (n < m)=false:=by simp;omega
      have e3:decide (m=n)=false:=by simp;omega
      have e4:decide (m <= (cutR n (above l n)).1)=true:=by simp;omega
      rw [e1,e2,e3,e4];simp [Bool.or_assoc,Bool.or_comm,Bool.or_left_comm]
    . have e4:decide (m <= (cutR m (above l m)).1)=true:=by simp;omega
      have e5:decide ((cutL m (below l m)).2 <= m)=true:=by simp;omega
      rw [e4,e5];simp
    . have e1:decide (m < n)=false:=by simp;omega
      have e2:decide (n < m)=true:=by simpa using hgt
      have e3:decide (m=n)=false:=by simp;omega
      have e4:decide ((cutL n (below l n)).2 <= m)=true:=by simp;omega
      rw [e1,e2,e3,e4];simp [Bool.or_assoc,Bool.or_comm,Bool.or_left_comm]
end Ser
end Go.HL
namespace Go.HL
open Go.Proofs
namespace Ser
set_option maxHeartbeats 2000000
set_option maxRecDepth 100000
set_option linter.unusedSimpArgs false
theorem zzn {α:Type} (l:List α):l=[] \/ ∃ a x,l=a++[x]:=by
 rcases List.eq_nil_or_concat l with h | ⟨a,x,h⟩
 . exact .inl h
 . exact .inr ⟨a,x,by rw [h,List.concat_eq_append]⟩
theorem yji (n:Int) (a:List Span) (s:Span):cutL n (a++[s])=if s.hi=n - 1 then (a,s.lo) else (a++[s],n):=by
 simp [cutL]
end Ser
end Go.HL
namespace Go.HL
open Go.Proofs
namespace Ser
set_option maxHeartbeats 2000000
set_option maxRecDepth 100000
set_option linter.unusedSimpArgs false
def up:List Span -> Int -> Int × List Span
 | [],n=>(n,[])
 | s :: r,n=>if s.lo <= n+1 then up r (if s.hi > n then s.hi else n) else (n,s :: r)
def Tail (R:Int × List Span) (b:List Span) (m:Int) (o:List Span):Prop:=(o=[] /\ R=up b m) \/ (R=(m,o++b) /\ ∀ s ∈ b,m+1 < s.lo)
theorem ymi (l:List Span) (n:Int) (hr:rise l) (hl:∀ s ∈ l,s.hi <= 1099511627776) (hb:l.length < 2 ^ 39) (h1:-1099511627776 <= n) (h2:n <= 1099511627776) :
 FunOK Tryz.prog 173 [spans l,i64 n] zac (.tup [i64 (up l n).1,.own 0]) (lk .free [(0,.live (.row 199 2 ((up l n).2.map Span.row)))]):=by
 refine zal mixed Tryz.func173 (by decide) [] (fun _=>.inl rfl) ?_
 generalize hR:up l n=R
 conv=>whnf
 refine ⟨{ x:(List Span × List Span) × Int × List Span // l=x.1.1++x.1.2 /\ Tail R x.1.2 x.2.1 x.2.2 /\ -1099511627776 <= x.2.1 /\ x.2.1 <= 1099511627776 /\ x.2.2.length <= x.1.1.length },fun | ⟨((a,b),m,o),_⟩=>hs 33 [(1,i64 m),(6,.own 900),(9,spans l),(10,i64 l.length),(11,i64 a.length)] [(900,.live (.row 199 2 (o.map Span.row)))],fun x=>x.1.1.2.length,⟨(([],l),n,[]),rfl,.inl ⟨rfl,hR.symm⟩,h1,h2,Nat.le_refl _⟩,?_,?_⟩
 . exact (hle_Q [(900,none)])
 rintro ⟨⟨⟨a,b⟩,m,o⟩,h,ht,hm1,hm2,ho⟩
 dsimp only at h ht hm1 hm2 ho
 have hlen:l.length=a.length+b.length:=by rw [h];simp
 conv=>whnf
 cases b with
 | nil =>
  rw [List.length_nil] at hlen
  refine sN ?_
  have hR2:R=(m,o):=by
   rcases ht with ⟨h1,h2⟩ | ⟨h1,h2⟩
   . rw [h2,h1];rfl
   . rw [h1,List.append_nil]
  subst hR2
  refine zau [(0,some 900)] rfl rfl trivial rfl rfl ⟨⟨rfl,.inl ⟨900,rfl,rfl⟩⟩,trivial⟩
 | cons s r =>
  rw [List.length_cons] at hlen
  have hs:=hl s (by rw [h];simp)
  have hrs:rise (s :: r):=by rw [h] at hr;exact (zgf.1 hr).2.1
  refine sT ?_
  refine zaj h rfl ?_;conv=>whnf
  refine sF ?_
  by_cases c:s.lo <= m+1
  . obtain ⟨rfl,htt⟩:o=[] /\ R=up r (if s.hi > m then s.hi else m):=by
     rcases ht with ⟨h1,h2⟩ | ⟨h1,h2⟩
     . exact ⟨h1,by rw [h2,up,if_pos c]⟩
     . have:=h2 s (by simp);omega
    refine sT ?_
    by_cases c2:s.hi > m
    . refine sT ?_
      refine sF ?_
      rw [if_pos c2] at htt
      exact ⟨⟨((a++[s],r),s.hi,[]),zae h,.inl ⟨rfl,htt⟩,by dsimp only;omega,hs,by simp⟩,(hle_Q [(900,some 900)]),by simp⟩
    . refine sN ?_
      refine sF ?_
      rw [if_neg c2] at htt
      exact ⟨⟨((a++[s],r),m,[]),zae h,.inl ⟨rfl,htt⟩,hm1,hm2,by simp⟩,(hle_Q [(900,some 900)]),by simp⟩
  . have ht2:Tail R r m (o++[s]):=by
     refine .inr ?_
     rcases ht with ⟨h1,h2⟩ | ⟨h1,h2⟩
     . rw [h2,h1,up,if_neg c]
       exact ⟨rfl,fun t ht=>by have:=hrs.1;have:=hrs.2.2.2.1 t ht;omega⟩
     . exact ⟨by rw [h1];simp,fun t ht=>h2 t (by simp [ht])⟩
    refine sN ?_
    refine zaa (c:=((o.map Span.row).length+1) * 16 <= 140737488355328) (by simp;omega) ?_;conv=>whnf
    refine sF ?_
    exact ⟨⟨((a++[s],r),m,o++[s]),zae h,ht2,hm1,hm2,by simp;omega⟩,(hle_X [(900,some 29)] (by repeat' (first | exact z0 | refine z1 ?_ | refine ⟨?_,?_⟩ | ((exact (zcv (f:=Span.row) rfl).symm)) | exact z2))),by simp⟩
instance:DecidableEq Span:=fun a b=>decidable_of_iff (a.lo=b.lo /\ a.hi=b.hi) ⟨fun h=>by cases a;cases b;simp_all,fun h=>by rw [h];simp⟩
end Ser
end Go.HL
namespace Go.HL
open Go.Proofs
namespace Ser
set_option maxHeartbeats 2000000
set_option maxRecDepth 100000
set_option linter.unusedSimpArgs false
def p1 (n:Int):List Span -> Int × Int -> Int × Int
 | [],p=>p
 | s :: r,p=>p1 n r (if s.hi=n - 1 then (s.lo,p.2) else if s.lo=n+1 then (p.1,s.hi) else p)
def p2 (n lo hi:Int):List Span -> Bool -> List Span
 | [],put=>if put then [] else [⟨lo,hi⟩]
 | s :: r,put=>if s.hi=n - 1 \/ s.lo=n+1 then p2 n lo hi r put else if put=false /\ s.lo > n then ⟨lo,hi⟩ :: s :: p2 n lo hi r true else s :: p2 n lo hi r put
theorem zwx {n:Int} {r:List Span}:∀ {a:List Span} {p:Int × Int},(∀ s ∈ a,s.hi < n - 1 /\ s.lo <= s.hi) -> p1 n (a++r) p=p1 n r p
 | [],p,_=>rfl
 | s :: a,p,h=>by
  have h1:=h s (by simp)
  rw [List.cons_append,p1,if_neg (by omega),if_neg (by omega)]
  exact zwx fun s hs=>h s (by simp [hs])
theorem zpc {n:Int}:∀ {a:List Span} {p:Int × Int},(∀ s ∈ a,n+1 < s.lo /\ s.lo <= s.hi) -> p1 n a p=p
 | [],p,_=>rfl
 | s :: a,p,h=>by
  have h1:=h s (by simp)
  rw [p1,if_neg (by omega),if_neg (by omega)]
  exact zpc fun s hs=>h s (by simp [hs])
theorem zwy {n lo hi:Int} {r:List Span}:∀ {a:List Span},(∀ s ∈ a,s.hi < n - 1 /\ s.lo <= s.hi) -> p2 n lo hi (a++r) false=a++p2 n lo hi r false
 | [],_=>rfl
 | s :: a,h=>by
  have h1:=h s (by simp)
  rw [List.cons_append,p2,if_neg (by omega),if_neg (by omega),List.cons_append,zwy fun s hs=>h s (by simp [hs])]
theorem ynm {n lo hi:Int}:∀ {a:List Span},(∀ s ∈ a,n+1 < s.lo /\ s.lo <= s.hi) -> p2 n lo hi a true=a
 | [],_=>rfl
 | s :: a,h=>by
  have h1:=h s (by simp)
  rw [p2,if_neg (by omega),if_neg (by simp),ynm fun s hs=>h s (by simp [hs])]
theorem ztx {n lo hi:Int} {a:List Span} (h:∀ s ∈ a,n+1 < s.lo /\ s.lo <= s.hi):p2 n lo hi a false=⟨lo,hi⟩ :: a:=by
 cases a with
 | nil=>rfl
 | cons s a =>
  have h1:=h s (by simp)
  rw [p2,if_neg (by omega),if_pos ⟨rfl,by omega⟩,ynm fun s hs=>h s (by simp [hs])]
theorem yox {l:List Span} {n:Int} (h:rise l) (hn:has l n=false):p2 n (p1 n l (n,n)).1 (p1 n l (n,n)).2 l false=add l n:=by
 have hsp:=split l n
 have hab:=h
 rw [hsp] at hab
 obtain ⟨ra,rb,rab⟩:=zgf.1 hab
 have hlow:=ycn (l:=l) (n:=n)
 have habv:=yco h hn
 have hadd:add l n=(cutL n (below l n)).1++⟨(cutL n (below l n)).2,(cutR n (above l n)).1⟩ :: (cutR n (above l n)).2:=by rw [add,hn];rfl
 rw [hadd]
 generalize below l n=A at *
 generalize above l n=B at *
 subst hsp
 have hA:∃ a:List Span,(∀ s ∈ a,s.hi < n - 1 /\ s.lo <= s.hi) /\ (A=a /\ cutL n A=(a,n) \/ ∃ s,A=a++[s] /\ s.hi=n - 1 /\ cutL n A=(a,s.lo)):=by
  rcases zzn A with rfl | ⟨a,s,rfl⟩
  . exact ⟨[],by simp,.inl ⟨rfl,rfl⟩⟩
  . obtain ⟨r1,r2,r3⟩:=zgf.1 ra
    have hs:=hlow s (by simp)
    have hs2:=r2.1
    have hal:∀ t ∈ a,t.hi < n - 1 /\ t.lo <= t.hi:=fun t ht=>by
     have:=r3 t ht s (by simp);have:=(zkl r1 t ht).1;omega
    rw [yji]
    by_cases c:s.hi=n - 1
    . exact ⟨a,hal,.inr ⟨s,rfl,c,by rw [if_pos c]⟩⟩
    . refine ⟨a++[s],fun t ht=>?_,.inl ⟨rfl,by rw [if_neg c]⟩⟩
      rcases List.mem_append.1 ht with ht | ht
      . exact hal t ht
      . rw [List.mem_singleton.1 ht];omega
 have hB:∃ b:List Span,(∀ s ∈ b,n+1 < s.lo /\ s.lo <= s.hi) /\ (B=b /\ cutR n B=(n,b) \/ ∃ s,B=s :: b /\ s.lo=n+1 /\ s.lo <= s.hi /\ cutR n B=(s.hi,b)):=by
  cases B with
  | nil=>exact ⟨[],by simp,.inl ⟨rfl,rfl⟩⟩
  | cons s b =>
   have hs:=habv s (by simp)
   have hs2:=rb.1
   have hbl:∀ t ∈ b,n+1 < t.lo /\ t.lo <= t.hi:=fun t ht=>by
    have:=rb.2.2.2.1 t ht;have:=(zkl rb.2.2.2.2 t ht).1;omega
   by_cases c:s.lo=n+1
   . exact ⟨b,hbl,.inr ⟨s,rfl,c,hs2,by simp [cutR,c]⟩⟩
   . refine ⟨s :: b,fun t ht=>?_,.inl ⟨rfl,by simp [cutR,c]⟩⟩
     rcases List.mem_cons.1 ht with rfl | ht
     . omega
     . exact hbl t ht
 obtain ⟨a,ha,hA⟩:=hA
 obtain ⟨b,hb,hB⟩:=hB
 rcases hA with ⟨rfl,eA⟩ | ⟨s,rfl,es,eA⟩ <;> rcases hB with ⟨rfl,eB⟩ | ⟨t,rfl,et,et2,eB⟩ <;> rw [eA,eB]
 . rw [zwx ha,zpc hb,zwy ha,ztx hb]
 . rw [zwx ha,p1,if_neg (by omega),if_pos et,zpc hb,zwy ha,p2,if_pos (.inr et),ztx hb]
 . rw [List.append_assoc,zwx ha,List.singleton_append,p1,if_pos es,zpc hb,zwy ha,p2,if_pos (.inl es),ztx hb]
 . rw [List.append_assoc,zwx ha,List.singleton_append,p1,if_pos es,p1,if_neg (by omega),if_pos et,zpc hb,zwy ha,p2,if_pos (.inl es),p2,if_pos (.inr et),ztx hb]
theorem yjj (l:List Span) (n:Int) (hn:has l n=false) (hl:rise l) (hb:l.length < 2 ^ 39) (h1:-1099511627776 <= n) (h2:n <= 1099511627776) :
 FunOK Tryz.prog 174 [spans l,i64 n] zac (.own 0) (lk .free [(0,.live (.row 199 2 ((add l n).map Span.row)))]):=by
 refine zal mixed Tryz.func174 (by decide) [] (fun _=>.inl rfl) ?_
 conv=>whnf
 (refine cL ?_;refine dL (zyq l n (by omega)) ?_)
 rw [hn,<- yox hl hn]
 generalize hP:p1 n l (n,n)=P
 generalize hR:p2 n P.1 P.2 l false=R
 conv=>whnf
 refine ⟨{ x:(List Span × List Span) × Int × Int // l=x.1.1++x.1.2 /\ p1 n x.1.2 x.2=P },fun | ⟨((a,b),lo,hi),_⟩=>hs 88 [(0,spans l),(1,i64 n),(5,i64 lo),(6,i64 hi),(7,.p (.v (.slice none 0 0))),(19,spans l),(20,i64 l.length),(21,i64 a.length)] [],fun x=>x.1.1.2.length,⟨(([],l),n,n),rfl,hP⟩,?_,?_⟩
 . exact (hle_Q [])
 rintro ⟨⟨⟨a,b⟩,lo,hi⟩,h,ht⟩
 dsimp only at h ht
 have hlen:l.length=a.length+b.length:=by rw [h];simp
 conv=>whnf
 cases b with
 | nil =>
  rw [List.length_nil] at hlen
  refine sN ?_
  rw [p1] at ht
  subst ht
  refine ⟨{ x:(List Span × List Span) × Bool × List Span // l=x.1.1++x.1.2 /\ R=x.2.2++p2 n lo hi x.1.2 x.2.1 /\ x.2.2.length <= 2 * x.1.1.length },fun | ⟨((a,b),put,o),_⟩=>hs 88 [(1,i64 n),(5,i64 lo),(6,i64 hi),(7,.own 900),(10,hbool put),(42,spans l),(43,i64 l.length),(44,i64 a.length)] [(900,.live (.row 199 2 (o.map Span.row)))],fun x=>x.1.1.2.length,⟨(([],l),false,[]),rfl,hR.symm,Nat.zero_le _⟩,?_,?_⟩
  . exact (hle_Q [(900,none)])
  clear h hlen
  rintro ⟨⟨⟨a,b⟩,put,o⟩,h,ht,ho⟩
  dsimp only at h ht ho
  have hlen:l.length=a.length+b.length:=by rw [h];simp
  conv=>whnf
  cases b with
  | nil =>
   rw [List.length_nil] at hlen
   refine sN ?_
   cases put with
   | true =>
    have hR2:R=o:=by rw [ht,p2,if_pos rfl,List.append_nil]
    conv=>whnf
    try (refine hcut.go ?_;conv=>whnf)
    subst hR2
    refine zau [(0,some 900)] rfl rfl trivial rfl rfl ⟨⟨rfl,.inl ⟨900,rfl,rfl⟩⟩,trivial⟩
   | false =>
    have hR2:R=o++[⟨lo,hi⟩]:=by rw [ht,p2,if_neg (by simp)]
    conv=>whnf
    try (refine hcut.go ?_;conv=>whnf)
    refine zaa (c:=((o.map Span.row).length+1) * 16 <= 140737488355328) (by simp;omega) ?_;conv=>whnf
    try (refine hcut.go ?_;conv=>whnf)
    subst hR2
    refine zau [(0,some 86)] rfl rfl trivial rfl rfl ⟨⟨rfl,.inl ⟨86,rfl,?_⟩⟩,trivial⟩
    exact zat (f:=Span.row) (x:=⟨lo,hi⟩) rfl rfl
  | cons s r =>
   rw [List.length_cons] at hlen
   rw [p2] at ht
   refine sT ?_
   refine zaj h rfl ?_;conv=>whnf
   refine sF ?_
   by_cases c1:s.hi=n - 1
   . rw [if_pos (.inl c1)] at ht
     refine sT ?_
     refine sF ?_
     exact ⟨⟨((a++[s],r),put,o),zae h,ht,by simp;omega⟩,(hle_Q [(900,some 900)]),by simp⟩
   refine sN ?_
   refine sF ?_
   by_cases c2:s.lo=n+1
   . rw [if_pos (.inr c2)] at ht
     refine sT ?_
     refine sF ?_
     exact ⟨⟨((a++[s],r),put,o),zae h,ht,by simp;omega⟩,(hle_Q [(900,some 900)]),by simp⟩
   rw [if_neg (by simp [c1,c2])] at ht
   refine sN ?_
   by_cases c3:put=false /\ s.lo > n
   . rw [if_pos c3] at ht
     obtain ⟨rfl,c3⟩:=c3
     conv=>whnf
     try (refine hcut.go ?_;conv=>whnf)
     refine sT ?_
     refine zaa (c:=((o.map Span.row).length+1) * 16 <= 140737488355328) (by simp;omega) ?_;conv=>whnf
     try (refine hcut.go ?_;conv=>whnf)
     refine zaa (c:=((o.map Span.row++[[pi lo,pi hi]]).length+1) * 16 <= 140737488355328) (by simp;omega) ?_;conv=>whnf
     try (refine hcut.go ?_;conv=>whnf)
     refine sF ?_
     refine ⟨⟨((a++[s],r),true,o++[⟨lo,hi⟩,s]),zae h,by rw [‹R=o++⟨lo,hi⟩ :: s :: p2 n lo hi r true›];simp,by simp;omega⟩,(hle_X [(900,some 77)] (by repeat' (first | exact z0 | refine z1 ?_ | refine ⟨?_,?_⟩ | ((exact zao (by simp;rfl))) | exact z2))),by simp⟩
   . rw [if_neg c3] at ht
     cases put with
     | true =>
      conv=>whnf
      try (refine hcut.go ?_;conv=>whnf)
      refine zaa (c:=((o.map Span.row).length+1) * 16 <= 140737488355328) (by simp;omega) ?_;conv=>whnf
      try (refine hcut.go ?_;conv=>whnf)
      refine sF ?_
      refine ⟨⟨((a++[s],r),true,o++[s]),zae h,by rw [ht];simp,by simp;omega⟩,(hle_X [(900,some 77)] (by repeat' (first | exact z0 | refine z1 ?_ | refine ⟨?_,?_⟩ | ((exact (zcv (f:=Span.row) rfl).symm)) | exact z2))),by simp⟩
     | false =>
      have c4:¬ s.lo > n:=fun h=>c3 ⟨rfl,h⟩
      conv=>whnf
      try (refine hcut.go ?_;conv=>whnf)
      refine sN ?_
      refine zaa (c:=((o.map Span.row).length+1) * 16 <= 140737488355328) (by simp;omega) ?_;conv=>whnf
      try (refine hcut.go ?_;conv=>whnf)
      refine sF ?_
      refine ⟨⟨((a++[s],r),false,o++[s]),zae h,by rw [ht];simp,by simp;omega⟩,(hle_X [(900,some 77)] (by repeat' (first | exact z0 | refine z1 ?_ | refine ⟨?_,?_⟩ | ((exact (zcv (f:=Span.row) rfl).symm)) | exact z2))),by simp⟩
 | cons s r =>
  rw [List.length_cons] at hlen
  rw [p1] at ht
  refine sT ?_
  refine zaj h rfl ?_;conv=>whnf
  refine sF ?_
  by_cases c1:s.hi=n - 1
  . rw [if_pos c1] at ht
    refine sT ?_
    refine sF ?_
    exact ⟨⟨((a++[s],r),s.lo,hi),zae h,ht⟩,(hle_Q []),by simp⟩
  . rw [if_neg c1] at ht
    refine sN ?_
    refine sF ?_
    by_cases c2:s.lo=n+1
    . rw [if_pos c2] at ht
      refine sT ?_
      refine sF ?_
      exact ⟨⟨((a++[s],r),lo,s.hi),zae h,ht⟩,(hle_Q []),by simp⟩
    . rw [if_neg c2] at ht
      refine sN ?_
      refine sF ?_
      exact ⟨⟨((a++[s],r),lo,hi),zae h,ht⟩,(hle_Q []),by simp⟩
end Ser
end Go.HL
namespace Go.HL
open Go.Proofs
namespace Rcv
open Srt Jn Ser
set_option maxHeartbeats 4000000
set_option maxRecDepth 100000
set_option linter.unusedSimpArgs false
def rcvC (r:Receiver) (a b c d:HV):List HV:=[i64 r.config.streams,i64 r.config.part,i64 r.config.packet,i64 r.config.paths,i64 r.config.turns,i64 r.config.waiting,i64 r.config.first,i64 r.cum,a,b,c,d]
abbrev rowS (l:List Span):HSlot:=.live (.row 199 2 (l.map Span.row))
abbrev rowP (l:List Piece):HSlot:=.live (.row 162 12 (l.map Piece.row))
abbrev rowT (l:List Int):HSlot:=.live (.row 3 1 (l.map fun n=>[pi n]))
abbrev rowL (l:List Arrival):HSlot:=.live (.row 56 4 (l.map Arrival.row))
abbrev rcvO (r:Receiver) (a b c d:Nat):HV:=.agg (rcvC r (.own a) (.own b) (.own c) (.own d))
abbrev rcvB (r:Receiver) (a b c d:Nat) (L:List (Nat × HSlot)):List (Nat × HSlot):=(a,rowS r.spans) :: (b,rowP r.pieces) :: (c,rowT r.turn) :: (d,rowL r.log) :: L
def newR (c:Config):Receiver:=⟨c,c.first - 1,[],[],List.replicate (max c.streams 0).toNat 0,[]⟩
theorem zpb (c:Config) (h1:-9223372036854775808 < c.first) (h2:c.first <= 9223372036854775807) (h3:c.streams <= 1099511627776) :
 FunOK Tryz.prog 106 [c.hv] zac (rcvO (newR c) 0 1 2 3) (lk .free (rcvB (newR c) 0 1 2 3 [])):=by
 refine zal mixed Tryz.func106 (by decide) [] (fun _=>.inl rfl) ?_
 conv=>whnf
 refine sF ?_
 refine zaa (c:=(0 <= (if 0 > c.streams then 0 else c.streams:Int) /\ (if 0 > c.streams then 0 else c.streams:Int)=(if 0 > c.streams then 0 else c.streams:Int) /\ (if 0 > c.streams then 0 else c.streams:Int) * (8:Nat) <= 140737488355328)) (by split <;> omega) ?_;conv=>whnf
 refine sD ?_
 refine zau [(0,none),(1,none),(2,some 10),(3,none)] rfl rfl trivial rfl rfl ⟨⟨rfl,.inr ⟨rfl,rfl⟩⟩,⟨rfl,.inr ⟨rfl,rfl⟩⟩,⟨rfl,.inl ⟨10,rfl,?_⟩⟩,⟨rfl,.inr ⟨rfl,rfl⟩⟩,trivial⟩
 refine zao ?_
 rw [show (newR c).turn=List.replicate (max c.streams 0).toNat 0 from rfl,List.map_replicate]
 have:(max c.streams 0).toNat=(if 0 > c.streams then 0 else c.streams:Int).toNat:=by split <;> omega
 rw [this];rfl
structure Fit (r:Receiver):Prop where
 spans:r.spans.length < 2 ^ 36
 pieces:r.pieces.length < 2 ^ 22
 bytes:tot r.pieces < 2 ^ 22
 turn:r.turn.length < 2 ^ 36
 log:r.log.length < 2 ^ 36
 data:∀ a ∈ r.log,a.data.length < 2 ^ 40
abbrev zeroR:List HV:=[i64 0,i64 0,i64 0,i64 0,i64 0,i64 0,i64 0,i64 0,hnil,hnil,hnil,hnil]
theorem zln (r:Receiver) (h2:r.pieces.length < 2 ^ 40) (h3:tot r.pieces < 2 ^ 60):FunOK Tryz.prog 57 [r.hv] zac (i64 (tot r.pieces:Nat)) zac:=by
 refine zah mixed Tryz.func57 (by decide) ?_
 conv=>whnf
 refine ⟨{ x:List Piece × List Piece // r.pieces=x.1++x.2 },fun | ⟨(A,B),_⟩=>hs 21 [(3,i64 (tot A:Nat)),(7,pieces r.pieces),(8,i64 r.pieces.length),(9,i64 A.length)] [],fun x=>x.1.2.length,⟨([],r.pieces),rfl⟩,?_,?_⟩
 . exact (hle_Q [])
 rintro ⟨⟨A,B⟩,h⟩
 dsimp only at h
 have hl:r.pieces.length=A.length+B.length:=by rw [h];simp
 have ht:tot r.pieces=tot A+tot B:=by rw [h,ztu]
 conv=>whnf
 cases B with
 | cons p B =>
  rw [List.length_cons] at hl
  rw [zet] at ht
  refine sT ?_
  refine zaj h rfl ?_;conv=>whnf
  refine sF ?_
  refine sF ?_
  exact ⟨⟨(A++[p],B),by rw [h];simp⟩,(hle_X [] (by repeat' (first | exact z0 | refine z1 ?_ | refine ⟨?_,?_⟩ | ((exact zbg (by rw [ztu,zet];simp [tot]))) | exact z2))),by simp⟩
 | nil =>
  rw [List.length_nil] at hl
  rw [List.append_nil] at h
  refine sN ?_
  rw [h]
def mine (s m:Int) (o:Bool) (p:Piece):Bool:=decide (p.chunk.stream=s) && decide (p.chunk.mid=m) && (p.chunk.ordered == o)
def dropR (r:Receiver) (s m:Int) (o:Bool):Receiver:={ r with pieces:=r.pieces.filter fun p=>!mine s m o p }
def dlv (r:Receiver) (s m:Int) (o:Bool):Receiver × Bool:=match join (r.pieces.filter (mine s m o)) with
 | none=>(r,false)
 | some b=>({ dropR r s m o with log:=r.log++[⟨s,m,o,b⟩] },true)
theorem zis (f:Piece -> Bool):∀ l:List Piece,tot (l.filter f) <= tot l
 | []=>Nat.le_refl _
 | p :: l=>by
  have:=zis f l
  rw [List.filter_cons]
  split
  . rw [zet,zet];omega
  . rw [zet];omega
theorem ymj {l:List Piece} {b:List UInt8} (h:join l=some b):0 < l.length:=by
 unfold join at h
 split at h
 . cases h
 . rename_i c;exact List.length_pos_iff.2 c
theorem zkm {r:Receiver} {s m:Int} {o:Bool} (h:(dlv r s m o).2=true):(dlv r s m o).1.pieces.length < r.pieces.length:=by
 unfold dlv at h ⊢
 split
 . rename_i hj;rw [hj] at h;cases h
 . rename_i b hj
   have h1:=ymj hj
   have h2:(r.pieces.filter fun p=>!mine s m o p).length+(r.pieces.filter (mine s m o)).length=r.pieces.length:=by
    induction r.pieces with
    | nil=>rfl
    | cons p l ih =>
     rw [List.filter_cons,List.filter_cons]
     cases mine s m o p <;> simp <;> omega
   show (r.pieces.filter fun p=>!mine s m o p).length < _
   omega
theorem zhy (r:Receiver) (s m:Int) (o:Bool):(dlv r s m o).1.turn=r.turn /\ (dlv r s m o).1.cum=r.cum /\ (dlv r s m o).1.spans=r.spans /\ (dlv r s m o).1.config=r.config /\ (dlv r s m o).1.pieces.length <= r.pieces.length /\ tot (dlv r s m o).1.pieces <= tot r.pieces /\
 (dlv r s m o).1.log.length+(dlv r s m o).1.pieces.length <= r.log.length+r.pieces.length:=by
 have hl:=fun h=>zkm (r:=r) (s:=s) (m:=m) (o:=o) h
 unfold dlv at hl ⊢
 split
 . exact ⟨rfl,rfl,rfl,rfl,Nat.le_refl _,Nat.le_refl _,Nat.le_refl _⟩
 . rename_i b hj
   rw [hj] at hl
   have h1:=hl rfl
   dsimp only [dropR] at h1 ⊢
   refine ⟨rfl,rfl,rfl,rfl,List.length_filter_le _ _,zis _ _,?_⟩
   simp only [List.length_append,List.length_singleton];omega
def bump (r:Receiver) (k:Nat):Receiver:={ r with turn:=r.turn.set k (r.turn[k]?.getD 0+1) }
def zpd:Nat -> Receiver -> Nat -> Receiver
 | 0,r,_=>r
 | n+1,r,k=>if (dlv r k (tag (r.turn[k]?.getD 0)) true).2 then zpd n (bump (dlv r k (tag (r.turn[k]?.getD 0)) true).1 k) k else (dlv r k (tag (r.turn[k]?.getD 0)) true).1
def turns (r:Receiver) (k:Nat):Receiver:=zpd (r.pieces.length+1) r k
theorem zrf (r:Receiver) (k:Nat):turns r k=if (dlv r k (tag (r.turn[k]?.getD 0)) true).2 then turns (bump (dlv r k (tag (r.turn[k]?.getD 0)) true).1 k) k else (dlv r k (tag (r.turn[k]?.getD 0)) true).1:=by
 have gen:∀ (n m:Nat) (r:Receiver),r.pieces.length < n -> r.pieces.length < m -> zpd n r k=zpd m r k:=by
  intro n
  induction n with
  | zero=>intro m r h;omega
  | succ n ih =>
   intro m r h1 h2
   cases m with
   | zero=>omega
   | succ m =>
    rw [zpd,zpd]
    split
    . rename_i hd
      have:=zkm hd
      exact ih m _ (by show (dlv r k _ true).1.pieces.length < n;omega) (by show (dlv r k _ true).1.pieces.length < m;omega)
    . rfl
 conv=>lhs;rw [turns,zpd]
 split
 . rename_i hd
   have:=zkm hd
   exact gen _ _ _ (by show (dlv r k _ true).1.pieces.length < _;omega) (by show (dlv r k _ true).1.pieces.length < _;exact Nat.lt_succ_self _)
 . rfl
structure TFit (r:Receiver) (k:Nat):Prop where
 pieces:r.pieces.length < 2 ^ 22
 bytes:tot r.pieces < 2 ^ 22
 log:r.log.length+r.pieces.length < 2 ^ 37
 has:k < r.turn.length
 lo:-(2 ^ 60) < r.turn[k]?.getD 0
 hi:r.turn[k]?.getD 0+r.pieces.length < 2 ^ 60
end Rcv
end Go.HL
namespace Go.HL
open Go.Proofs
namespace Rcv
open Srt Jn Ser
set_option maxHeartbeats 4000000
set_option maxRecDepth 100000
set_option linter.unusedSimpArgs false
structure Takes (r:Receiver) (c:Chunk) (n:Int):Prop where
 kind:c.kind=1
 low:0 <= c.stream
 high:c.stream < r.turn.length
 above:r.cum < n
 fresh:has r.spans n=false
 room:n=r.cum+1 \/ (tot r.pieces:Int)+c.data.length <= 400
def put (r:Receiver) (c:Chunk):Receiver :=
 { r with pieces:=r.pieces++[⟨near r.cum c.tag,c⟩],cum:=(up (add r.spans (near r.cum c.tag)) r.cum).1,spans:=(up (add r.spans (near r.cum c.tag)) r.cum).2 }
instance yqa (r:Receiver) (c:Chunk) (n:Int):Decidable (Takes r c n) :=
 decidable_of_iff (c.kind=1 /\ 0 <= c.stream /\ c.stream < r.turn.length /\ r.cum < n /\ has r.spans n=false /\ (n=r.cum+1 \/ (tot r.pieces:Int)+c.data.length <= 400)) ⟨fun ⟨a,b,d,e,f,g⟩=>⟨a,b,d,e,f,g⟩,fun ⟨a,b,d,e,f,g⟩=>⟨a,b,d,e,f,g⟩⟩
def data (r:Receiver) (c:Chunk):Receiver:=if Takes r c (near r.cum c.tag) then (if c.ordered then turns (put r c) c.stream.toNat else (dlv (put r c) c.stream c.mid false).1) else r
structure DFit (r:Receiver) (c:Chunk):Prop where
 fit:Fit r
 rise:rise r.spans
 hi:∀ s ∈ r.spans,s.hi <= 2 ^ 39
 cum1:-(2 ^ 39) <= r.cum
 cum2:r.cum <= 2 ^ 39
 turn:∀ t ∈ r.turn,-(2 ^ 59) < t /\ t < 2 ^ 59
 data:c.data.length < 2 ^ 21
 more:tot r.pieces < 2 ^ 21
 many:r.pieces.length < 2 ^ 21
theorem ynn {l:List Span} {n M:Int} (h:Ser.rise l) (h1:-9223372036854775808 <= n) (h2:n <= 9223372036854775807) (hl:∀ s ∈ l,s.hi <= M) (hn:n <= M):∀ s ∈ add l n,s.hi <= M:=by
 obtain ⟨r1,r2⟩:=ztw h h1 h2
 intro s hs
 have h3:=(zkl r1 s hs).1
 have h4:has (add l n) s.hi=true:=zzl.2 ⟨s,hs,h3,Int.le_refl _⟩
 rw [r2,Bool.or_eq_true] at h4
 rcases h4 with h4 | h4
 . obtain ⟨t,ht,_,h5⟩:=zzl.1 h4
   have:=hl t ht;omega
 . have:s.hi=n:=by simpa using h4
   omega
theorem ycp (l:List Span) (n:Int):(add l n).length <= l.length+1:=by
 unfold add
 split
 . omega
 . have h1:(cutL n (below l n)).1.length <= (below l n).length:=by
    unfold cutL;split
    . split
      . simp
      . exact Nat.le_refl _
    . exact Nat.le_refl _
   have h2:(cutR n (above l n)).2.length <= (above l n).length:=by
    cases above l n with
    | nil=>exact Nat.le_refl _
    | cons t r=>simp only [cutR];split <;> simp
   have h3:l.length=(below l n).length+(above l n).length:=by
    conv=>lhs;rw [split l n]
    exact List.length_append
   simp only [List.length_append,List.length_cons];omega
def shift (c:Int) (s:Span):Span:=⟨s.lo - c,s.hi - c⟩
def tells (r:Receiver):Chunk:=⟨2,tag r.cum,0,0,0,false,false,[],(r.spans.take 6).map (shift r.cum),(if 0 > 400 - (tot r.pieces:Int) then 0 else 400 - (tot r.pieces:Int)),[]⟩
theorem zrg {α:Type} (A:List α) (x:α) (f:α -> α):((A++[x]).take 6).map f=if A.length < 6 then (A.take 6).map f++[f x] else (A.take 6).map f:=by
 split
 . rename_i h
   rw [List.take_of_length_le (by simp;omega),List.take_of_length_le (by omega)];simp
 . rename_i h
   rw [List.take_append_of_le_length (by omega)]
end Rcv
end Go.HL
namespace Go.HL
open Go.Proofs
namespace Rcv
open Srt Jn Ser
set_option maxHeartbeats 4000000
set_option maxRecDepth 100000
set_option linter.unusedSimpArgs false
def pass (r:Receiver) (k:Nat):Receiver:=bump (if (dlv r k (tag (r.turn[k]?.getD 0)) true).2 then (dlv r k (tag (r.turn[k]?.getD 0)) true).1 else dropR (dlv r k (tag (r.turn[k]?.getD 0)) true).1 k (tag (r.turn[k]?.getD 0)) true) k
def passes:Nat -> Receiver -> Nat -> Receiver
 | 0,r,_=>r
 | n+1,r,k=>passes n (pass r k) k
def upto (r:Receiver) (k:Nat) (n:Int):Receiver:=passes (n+1 - r.turn[k]?.getD 0).toNat r k
def skip1 (r:Receiver) (s:Skip):Receiver :=
 if s.stream < 0 \/ (r.turn.length:Int) <= s.stream then r else if s.ordered=false then dropR r s.stream s.mid false
 else turns (upto r s.stream.toNat (near (r.turn[s.stream.toNat]?.getD 0) s.mid)) s.stream.toNat
structure SFit (r:Receiver):Prop where
 pieces:r.pieces.length < 2 ^ 22
 bytes:tot r.pieces < 2 ^ 22
 log:r.log.length+r.pieces.length < 2 ^ 37
 lo:∀ t ∈ r.turn,-(2 ^ 57) < t
 hi:∀ t ∈ r.turn,t < 2 ^ 57
theorem zlo (r:Receiver) (k:Nat):(pass r k).turn=r.turn.set k (r.turn[k]?.getD 0+1) /\ (pass r k).cum=r.cum /\ (pass r k).spans=r.spans /\ (pass r k).config=r.config /\ (pass r k).pieces.length <= r.pieces.length /\ tot (pass r k).pieces <= tot r.pieces /\
 (pass r k).log.length+(pass r k).pieces.length <= r.log.length+r.pieces.length:=by
 obtain ⟨h1,h2,h3,h4,h5,h6,h7⟩:=zhy r k (tag (r.turn[k]?.getD 0)) true
 unfold pass
 generalize dlv r k (tag (r.turn[k]?.getD 0)) true=D at *
 obtain ⟨y,ok⟩:=D
 dsimp only at h1 h2 h3 h4 h5 h6 h7 ⊢
 cases ok with
 | true=>exact ⟨by show y.turn.set _ (y.turn[k]?.getD 0+1)=_;rw [h1],h2,h3,h4,h5,h6,h7⟩
 | false =>
  have f1:=List.length_filter_le (fun p=>!mine k (tag (r.turn[k]?.getD 0)) true p) y.pieces
  have f2:=zis (fun p=>!mine k (tag (r.turn[k]?.getD 0)) true p) y.pieces
  refine ⟨by show y.turn.set _ (y.turn[k]?.getD 0+1)=_;rw [h1],h2,h3,h4,?_,?_,?_⟩
  . show (List.filter _ _).length <= _;omega
  . show tot (List.filter _ _) <= _;omega
  . show _+(List.filter _ _).length <= _;show y.log.length+_ <= _;omega
theorem zwz {r:Receiver} {k:Nat} {n:Int} (h:k < r.turn.length) (hn:r.turn[k]?.getD 0 <= n):upto r k n=upto (pass r k) k n:=by
 obtain ⟨h1,_⟩:=zlo r k
 unfold upto
 rw [h1,List.getElem?_set_self h]
 show passes _ _ _=passes (n+1 - (r.turn[k]?.getD 0+1)).toNat _ _
 obtain ⟨j,hj⟩:∃ j,(n+1 - r.turn[k]?.getD 0).toNat=j+1:=⟨(n+1 - r.turn[k]?.getD 0).toNat - 1,by omega⟩
 rw [hj,passes,show (n+1 - (r.turn[k]?.getD 0+1)).toNat=j by omega]
theorem ycq {r:Receiver} {k:Nat} {n:Int} (hn:n < r.turn[k]?.getD 0):upto r k n=r:=by
 unfold upto
 rw [show (n+1 - r.turn[k]?.getD 0).toNat=0 by omega];rfl
end Rcv
end Go.HL
namespace Go.HL
open Go.Proofs
namespace Rcv
open Srt Jn Ser
set_option maxHeartbeats 1000000
set_option linter.unusedSimpArgs false
theorem zxa {n:Nat}:∀ {S:List Piece} {i:Nat} {b:List UInt8},joinL n i S=some b -> b.length=tot S
 | [],_,_,h=>by rw [joinL] at h;cases h;rfl
 | p :: r,i,b,h=>by
  rw [joinL] at h
  split at h
  . obtain ⟨d,hd,rfl⟩:=Option.map_eq_some_iff.1 h
    rw [List.length_append,zet,zxa hd]
  . cases h
theorem ymk {l:List Piece} {b:List UInt8} (h:join l=some b):b.length=tot l:=by
 unfold join at h
 split at h
 . cases h
 . rw [zxa h,ymh zmx]
def logs (l:List Arrival):Nat:=(l.map fun a=>a.data.length).sum
theorem ycr (a b:List Arrival):logs (a++b)=logs a+logs b:=by simp [logs]
theorem yml {l:List Arrival} {a:Arrival} (h:a ∈ l):a.data.length <= logs l:=by
 obtain ⟨x,y,rfl⟩:=List.append_of_mem h
 rw [ycr]
 simp [logs];omega
structure Goes (r r':Receiver) (d:Nat):Prop where
 len:r'.turn.length=r.turn.length
 cum:r'.cum=r.cum
 spans:r'.spans=r.spans
 config:r'.config=r.config
 pieces:r'.pieces.length <= r.pieces.length
 bytes:tot r'.pieces <= tot r.pieces
 log:r'.log.length+r'.pieces.length <= r.log.length+r.pieces.length
 mass:logs r'.log+tot r'.pieces <= logs r.log+tot r.pieces
 pre:r.log <+: r'.log
 lo:∀ L:Int,(∀ t ∈ r.turn,L < t) -> ∀ t ∈ r'.turn,L < t
 hi:∀ T:Int,(∀ t ∈ r.turn,t+r.pieces.length <= T) -> ∀ t ∈ r'.turn,t+r'.pieces.length <= T+d
theorem Goes.refl (r:Receiver):Goes r r 0:=⟨rfl,rfl,rfl,rfl,Nat.le_refl _,Nat.le_refl _,Nat.le_refl _,Nat.le_refl _,List.prefix_refl _,fun _ h=>h,fun T h t ht=>by have:=h t ht;omega⟩
theorem Goes.trans {a b c:Receiver} {d e:Nat} (h:Goes a b d) (k:Goes b c e):Goes a c (d+e):=by
 obtain ⟨a1,a2,a3,a4,a5,a6,a7,a8,a9,a10,a11⟩:=h
 obtain ⟨b1,b2,b3,b4,b5,b6,b7,b8,b9,b10,b11⟩:=k
 exact ⟨b1.trans a1,b2.trans a2,b3.trans a3,b4.trans a4,by omega,by omega,by omega,by omega,a9.trans b9,fun L h=>b10 L (a10 L h),fun T h t ht=>by have:=b11 (T+d) (a11 T h) t ht;omega⟩
theorem Goes.more {a b:Receiver} {d e:Nat} (h:Goes a b d) (k:d <= e):Goes a b e:={ h with hi:=fun T ht t hm=>by have:=h.hi T ht t hm;omega }
theorem ymm {l:List Piece} (f:Piece -> Bool):(l.filter fun p=>!f p).length+(l.filter f).length=l.length:=by
 induction l with
 | nil=>rfl
 | cons p l ih =>
  rw [List.filter_cons,List.filter_cons]
  cases f p <;> simp <;> omega
theorem ycs {l:List Piece} (f:Piece -> Bool):tot (l.filter fun p=>!f p)+tot (l.filter f)=tot l:=by
 induction l with
 | nil=>rfl
 | cons p l ih =>
  rw [List.filter_cons,List.filter_cons]
  cases f p <;> simp [zet] <;> omega
theorem zxb (r:Receiver) (s m:Int) (o:Bool):Goes r (dropR r s m o) 0:=by
 have h1:=ymm (l:=r.pieces) (mine s m o)
 have h2:=ycs (l:=r.pieces) (mine s m o)
 refine ⟨rfl,rfl,rfl,rfl,?_,?_,?_,?_,List.prefix_refl _,fun _ h=>h,fun T h t ht=>?_⟩
 . show (r.pieces.filter fun p=>!mine s m o p).length <= _;omega
 . show tot (r.pieces.filter fun p=>!mine s m o p) <= _;omega
 . show _+(r.pieces.filter fun p=>!mine s m o p).length <= _;show r.log.length+_ <= _;omega
 . show _+tot (r.pieces.filter fun p=>!mine s m o p) <= _;show logs r.log+_ <= _;omega
 . have:=h t ht
   show t+((r.pieces.filter fun p=>!mine s m o p).length:Int) <= _;omega
theorem zty (r:Receiver) (s m:Int) (o:Bool):Goes r (dlv r s m o).1 0:=by
 obtain ⟨a1,a2,a3,a4,a5,a6,a7⟩:=zhy r s m o
 refine ⟨by rw [a1],a2,a3,a4,a5,a6,a7,?_,?_,fun L h=>by rw [a1];exact h,fun T h t ht=>by rw [a1] at ht;have:=h t ht;omega⟩
 . unfold dlv
   split
   . exact Nat.le_refl _
   . rename_i b hj
     have h1:=ymk hj
     have h2:=ycs (l:=r.pieces) (mine s m o)
     show logs (r.log++[_])+tot (r.pieces.filter fun p=>!mine s m o p) <= _
     rw [ycr]
     simp only [logs,List.map_cons,List.map_nil,List.sum_cons,List.sum_nil] at *
     omega
 . unfold dlv
   split
   . exact List.prefix_refl _
   . exact List.prefix_append _ _
theorem zzo {l:List Int} {k:Nat} {t:Int} (h:t ∈ l.set k (l[k]?.getD 0+1)):t ∈ l \/ (t - 1 ∈ l):=by
 by_cases hk:k < l.length
 . rcases List.mem_or_eq_of_mem_set h with h | h
   . exact .inl h
   . right
     rw [h,List.getElem?_eq_getElem hk]
     simp only [Option.getD_some]
     rw [show l[k]+1 - 1=l[k] by omega]
     exact List.getElem_mem hk
 . rw [List.set_eq_of_length_le (by omega)] at h
   exact .inl h
theorem zpe (r:Receiver) (k:Nat):Goes r (bump r k) 1:=by
 refine ⟨by show (r.turn.set k _).length=_;rw [List.length_set],rfl,rfl,rfl,Nat.le_refl _,Nat.le_refl _,Nat.le_refl _,Nat.le_refl _,List.prefix_refl _,fun L h t ht=>?_,fun T h t ht=>?_⟩
 . rcases zzo ht with h1 | h1
   . exact h t h1
   . have:=h _ h1;omega
 . show t+(r.pieces.length:Int) <= _
   rcases zzo ht with h1 | h1
   . have:=h t h1;omega
   . have:=h _ h1;omega
theorem yfd {r x:Receiver} (k:Nat) (h:Goes r x 0) (hl:x.pieces.length < r.pieces.length) (ht:x.turn=r.turn):Goes r (bump x k) 0:=by
 have h1:=h.trans (zpe x k)
 refine { h1 with hi:=fun T hT t htm=>?_ }
 show t+(x.pieces.length:Int) <= _
 rcases zzo htm with h2 | h2
 . rw [ht] at h2;have:=hT t h2;omega
 . rw [ht] at h2;have:=hT _ h2;omega
theorem zlp:∀ (n:Nat) (r:Receiver) (k:Nat),r.pieces.length < n -> Goes r (turns r k) 0
 | 0,r,k,h=>by omega
 | n+1,r,k,h=>by
  rw [zrf]
  have h1:=zty r k (tag (r.turn[k]?.getD 0)) true
  split
  . rename_i hd
    have h2:=zkm hd
    have h3:=yfd k h1 h2 (zhy r k (tag (r.turn[k]?.getD 0)) true).1
    exact h3.trans (zlp n _ k (by show (dlv r k (tag (r.turn[k]?.getD 0)) true).1.pieces.length < n;omega))
  . exact h1
theorem yjk (r:Receiver) (k:Nat):Goes r (pass r k) 1:=by
 have h1:=zty r k (tag (r.turn[k]?.getD 0)) true
 unfold pass
 split
 . exact h1.trans (zpe _ _)
 . exact (h1.trans (zxb _ _ _ _)).trans (zpe _ _)
theorem zpf:∀ (n:Nat) (r:Receiver) (k:Nat),Goes r (passes n r k) n
 | 0,r,_=>Goes.refl r
 | n+1,r,k=>((yjk r k).trans (zpf n _ k)).more (by omega)
theorem zxc (r:Receiver) (s:Skip) (h:∀ t ∈ r.turn,-(2 ^ 60) < t /\ t < 2 ^ 60):Goes r (skip1 r s) 32769:=by
 unfold skip1
 split
 . exact (Goes.refl r).more (by omega)
 split
 . exact (zxb _ _ _ _).more (by omega)
 rename_i c _
 have hk:s.stream.toNat < r.turn.length:=by omega
 have hb:=h _ (List.getElem_mem hk)
 have hg:r.turn[s.stream.toNat]?.getD 0=r.turn[s.stream.toNat]:=by simp [hk]
 obtain ⟨n1,n2,n3⟩:=zhp (a:=r.turn[s.stream.toNat]) (t:=s.mid) (by omega) (by omega)
 have h1:=zpf (near r.turn[s.stream.toNat] s.mid+1 - r.turn[s.stream.toNat]).toNat r s.stream.toNat
 refine (Goes.trans (b:=upto r s.stream.toNat (near (r.turn[s.stream.toNat]?.getD 0) s.mid)) (d:=32769) (e:=0) ?_ (zlp _ _ _ (Nat.lt_succ_self _)))
 unfold upto
 rw [hg]
 exact h1.more (by omega)
theorem zxd:∀ (l:List Skip) (r:Receiver) (L T:Int),-(2 ^ 59) <= L -> T+l.length * 32769 < 2 ^ 59 -> (∀ t ∈ r.turn,L < t) -> (∀ t ∈ r.turn,t+r.pieces.length <= T) -> Goes r (l.foldl skip1 r) (l.length * 32769)
 | [],r,_,_,_,_,_,_=>(Goes.refl r).more (by omega)
 | s :: l,r,L,T,h1,h2,h3,h4=>by
  rw [List.length_cons] at h2
  have g:=zxc r s fun t ht=>by have:=h3 t ht;have:=h4 t ht;omega
  have g2:=zxd l (skip1 r s) L (T+32769) h1 (by omega) (g.lo L h3) (g.hi T h4)
  rw [List.foldl_cons,List.length_cons]
  exact (g.trans g2).more (by omega)
def forward (r:Receiver) (c:Chunk):Receiver :=
 if ¬ c.kind=3 \/ near r.cum c.tag <= r.cum then r else c.skips.foldl skip1 { r with cum:=(up r.spans (near r.cum c.tag)).1,spans:=(up r.spans (near r.cum c.tag)).2 }
structure RFit (N:Nat) (r:Receiver):Prop where
 log:r.log.length+r.pieces.length <= N
 mass:logs r.log+tot r.pieces <= N
 many:r.spans.length <= N
 rise:rise r.spans
 above:∀ s ∈ r.spans,r.cum+1 < s.lo
 his:∀ s ∈ r.spans,s.hi <= r.cum+32768
 cum1:-1 <= r.cum
 cum2:r.cum <= 100000+32768 * N
 lo:∀ t ∈ r.turn,-1 < t
 hi:∀ t ∈ r.turn,t+r.pieces.length <= 32769 * N
 streams:r.turn.length < 2 ^ 30
theorem RFit.more {N M:Nat} {r:Receiver} (h:RFit N r) (k:N <= M):RFit M r :=
 ⟨by have:=h.log;omega,by have:=h.mass;omega,by have:=h.many;omega,h.rise,h.above,h.his,h.cum1,by have:=h.cum2;omega,h.lo,fun t ht=>by have:=h.hi t ht;omega,h.streams⟩
theorem RFit.fit {N:Nat} {r:Receiver} (h:RFit N r) (hN:N <= 2 ^ 20):Fit r:=by
 obtain ⟨h1,h2,h3,h4,h5,h6,h7,h8,h9,h10,h11⟩:=h
 exact ⟨by omega,by omega,by omega,by omega,by omega,fun a ha=>by have:=yml ha;omega⟩
theorem RFit.dfit {N:Nat} {r:Receiver} (h:RFit N r) (hN:N <= 2 ^ 20) {c:Chunk} (hc:c.data.length <= 2 ^ 20):DFit r c:=by
 have hf:=h.fit hN
 obtain ⟨h1,h2,h3,h4,h5,h6,h7,h8,h9,h10,h11⟩:=h
 exact ⟨hf,h4,fun s hs=>by have:=h6 s hs;omega,by omega,by omega,fun t ht=>by have:=h9 t ht;have:=h10 t ht;omega,by omega,by omega,by omega⟩
theorem ztz:∀ {l:List Span} {n:Int} (_:Ser.rise l),n <= (up l n).1 /\ (up l n).2.length <= l.length /\ Ser.rise (up l n).2 /\ (∀ s ∈ (up l n).2,s ∈ l) /\ (∀ s ∈ (up l n).2,(up l n).1+1 < s.lo) /\ ((up l n).1=n \/ ∃ s ∈ l,(up l n).1=s.hi)
 | [],n,_=>by simp [up,Ser.rise]
 | s :: r,n,h=>by
  rw [up]
  split
  . rename_i c
    have ih:=ztz (l:=r) (n:=if s.hi > n then s.hi else n) h.2.2.2.2
    have h1:n <= (if s.hi > n then s.hi else n):=by split <;> omega
    have h2:(if s.hi > n then s.hi else n)=n \/ (if s.hi > n then s.hi else n)=s.hi:=by split <;> simp
    generalize (if s.hi > n then s.hi else n)=n' at *
    obtain ⟨i1,i2,i3,i4,i5,i6⟩:=ih
    refine ⟨by omega,by simp;omega,i3,fun t ht=>by simp [i4 t ht],i5,?_⟩
    rcases i6 with i6 | ⟨t,ht,e⟩
    . rcases h2 with h2 | h2
      . exact .inl (i6.trans h2)
      . exact .inr ⟨s,by simp,i6.trans h2⟩
    . exact .inr ⟨t,by simp [ht],e⟩
  . rename_i c
    refine ⟨Int.le_refl _,Nat.le_refl _,h,fun t ht=>ht,fun t ht=>?_,.inl rfl⟩
    have h0:=h.1
    rcases List.mem_cons.1 ht with rfl | ht
    . omega
    . have:=h.2.2.2.1 t ht;omega
theorem RFit.goes {N d e:Nat} {r r':Receiver} (h:RFit N r) (g:Goes r r' d) (hd:d <= 32769 * e):RFit (N+e) r':=by
 obtain ⟨h1,h2,h3,h4,h5,h6,h7,h8,h9,h10,h11⟩:=h
 obtain ⟨a1,a2,a3,a4,a5,a6,a7,a8,a9,a10,a11⟩:=g
 exact ⟨by omega,by omega,by rw [a3];omega,by rw [a3];exact h4,by rw [a2,a3];exact h5,fun s hs=>by rw [a3] at hs;have:=h6 s hs;omega,by omega,by omega,a10 _ h9,fun t ht=>by have:=a11 _ h10 t ht;omega,by omega⟩
theorem RFit.put {N:Nat} {r:Receiver} (h:RFit N r) (hN:N <= 2 ^ 21) {c:Chunk} (ht:Takes r c (near r.cum c.tag)):RFit (N+(c.data.length+1)) (put r c):=by
 obtain ⟨h1,h2,h3,h4,h5,h6,h7,h8,h9,h10,h11⟩:=h
 obtain ⟨n1,n2,n3⟩:=zhp (a:=r.cum) (t:=c.tag) (by omega) (by omega)
 have ha:=ht.above
 unfold Rcv.put
 generalize near r.cum c.tag=n at *
 have hadd:=ynn (n:=n) (M:=r.cum+32768) h4 (by omega) (by omega) (fun s hs=>by have:=h6 s hs;omega) (by omega)
 have hal:=ycp r.spans n
 obtain ⟨u1,u2,u3,u4,u5,u6⟩:=ztz (n:=r.cum) (ztw h4 (n:=n) (by omega) (by omega)).1
 refine ⟨?_,?_,?_,u3,u5,fun s hs=>?_,?_,?_,h9,?_,h11⟩
 . simp only [List.length_append,List.length_singleton];omega
 . dsimp only
   rw [ztu,zet]
   have:tot []=0:=rfl
   dsimp only;omega
 . dsimp only;omega
 . have:=hadd s (u4 s hs);dsimp only;omega
 . dsimp only;omega
 . dsimp only
   rcases u6 with u6 | ⟨s,hs,u6⟩
   . omega
   . have:=hadd s hs;omega
 . intro t htt
   have:=h10 t htt
   simp only [List.length_append,List.length_singleton];omega
theorem ymn {N:Nat} {r:Receiver} (h:RFit N r) (hN:N <= 2 ^ 21) (c:Chunk):RFit (N+(c.data.length+1)) (data r c):=by
 unfold data
 split
 . rename_i ht
   have hp:=h.put hN ht
   split
   . exact hp.goes (e:=0) (zlp _ _ _ (Nat.lt_succ_self _)) (Nat.zero_le _)
   . exact hp.goes (e:=0) (zty _ _ _ _) (Nat.zero_le _)
 . exact h.more (by omega)
theorem zzp {N:Nat} {r:Receiver} (h:RFit N r) (hN:N <= 2 ^ 21) (c:Chunk) (hc:c.skips.length <= 2 ^ 21):RFit (N+(c.skips.length+1)) (forward r c):=by
 unfold forward
 split
 . exact h.more (by omega)
 rename_i ht
 obtain ⟨h1,h2,h3,h4,h5,h6,h7,h8,h9,h10,h11⟩:=h
 obtain ⟨n1,n2,n3⟩:=zhp (a:=r.cum) (t:=c.tag) (by omega) (by omega)
 have ha:r.cum < near r.cum c.tag:=by
  apply Classical.byContradiction;intro hc;exact ht (.inr (by omega))
 generalize near r.cum c.tag=n at *
 obtain ⟨u1,u2,u3,u4,u5,u6⟩:=ztz (n:=n) h4
 have hw:RFit (N+1) { r with cum:=(up r.spans n).1,spans:=(up r.spans n).2 }:=by
  refine ⟨by dsimp only;omega,by dsimp only;omega,by dsimp only;omega,u3,u5,fun s hs=>?_,by dsimp only;omega,?_,h9,fun t htt=>by have:=h10 t htt;dsimp only;omega,h11⟩
  . have:=h6 s (u4 s hs);dsimp only;omega
  . dsimp only
    rcases u6 with u6 | ⟨s,hs,u6⟩
    . omega
    . have:=h6 s hs;omega
 have g:=zxd c.skips { r with cum:=(up r.spans n).1,spans:=(up r.spans n).2 } (-1) (32769 * N) (by omega) (by omega) h9 h10
 exact (hw.goes (e:=c.skips.length) g (by omega)).more (by omega)
end Rcv
end Go.HL
namespace Go.HL
open Go.Proofs
namespace Rcv
open Srt Jn Ser
set_option maxHeartbeats 4000000
set_option maxRecDepth 100000
set_option linter.unusedSimpArgs false
theorem RFit.skip {N:Nat} {r:Receiver} (h:RFit N r) (hN:N <= 2 ^ 23) (s:Skip):RFit (N+1) (skip1 r s) :=
 h.goes (e:=1) (zxc r s fun t ht=>by have:=h.lo t ht;have:=h.hi t ht;omega) (by omega)
theorem RFit.sfit {N:Nat} {r:Receiver} (h:RFit N r) (hN:N < 2 ^ 22):SFit r:=by
 obtain ⟨h1,h2,h3,h4,h5,h6,h7,h8,h9,h10,h11⟩:=h
 exact ⟨by omega,by omega,by omega,fun t ht=>by have:=h9 t ht;omega,fun t ht=>by have:=h10 t ht;omega⟩
def at_up (r:Receiver) (n:Int):Receiver:={ r with cum:=(up r.spans n).1,spans:=(up r.spans n).2 }
theorem RFit.up {N:Nat} {r:Receiver} (h:RFit N r) (_:N <= 2 ^ 22) {n:Int} (n1:r.cum < n) (n2:n <= r.cum+32768):RFit (N+1) (at_up r n):=by
 obtain ⟨h1,h2,h3,h4,h5,h6,h7,h8,h9,h10,h11⟩:=h
 obtain ⟨u1,u2,u3,u4,u5,u6⟩:=ztz (n:=n) h4
 unfold at_up
 refine ⟨by dsimp only;omega,by dsimp only;omega,by dsimp only;omega,u3,u5,fun s hs=>?_,by dsimp only;omega,?_,h9,fun t htt=>by have:=h10 t htt;dsimp only;omega,h11⟩
 . have:=h6 s (u4 s hs);dsimp only;omega
 . dsimp only
   rcases u6 with u6 | ⟨s,hs,u6⟩
   . omega
   . have:=h6 s hs;omega
theorem zrh (l:List Piece) (c:Chunk) (hb:l.length < 2 ^ 36):FunOK Tryz.prog 177 [pieces l,c.hv] zac (.tup [pieces (l.filter (mine c.stream c.mid c.ordered)),pieces (l.filter fun p=>!mine c.stream c.mid c.ordered p)]) zac:=by
 refine zah mixed Tryz.func177 (by decide) ?_
 conv=>whnf
 refine ⟨{ x:List Piece × List Piece // l=x.1++x.2 },fun | ⟨(a,b),_⟩=>hs 49 [(3,.ptr 3 0),(6,.own 900),(7,.own 901),(10,pieces l),(11,i64 l.length),(12,i64 a.length)] [(3,.live (.cells 61 c.cells)),(900,rowP (a.filter (mine c.stream c.mid c.ordered))),(901,rowP (a.filter fun p=>!mine c.stream c.mid c.ordered p))],fun x=>x.1.2.length,⟨([],l),rfl⟩,?_,?_⟩
 . exact (hle_Q [(3,some 3),(900,none),(901,none)])
 rintro ⟨⟨a,b⟩,h⟩
 dsimp only at h
 have hfa:=List.length_filter_le (mine c.stream c.mid c.ordered) a
 have hfb:=List.length_filter_le (fun p=>!mine c.stream c.mid c.ordered p) a
 conv=>whnf
 cases b with
 | cons p b =>
  have hz:=zar h
  refine sT ?_
  refine zaj h rfl ?_;conv=>whnf
  have e1:(a++[p]).filter (mine c.stream c.mid c.ordered)=a.filter (mine c.stream c.mid c.ordered)++if mine c.stream c.mid c.ordered p then [p] else []:=by
   rw [List.filter_append,List.filter_cons];rfl
  have e2:(a++[p]).filter (fun p=>!mine c.stream c.mid c.ordered p)=a.filter (fun p=>!mine c.stream c.mid c.ordered p)++if mine c.stream c.mid c.ordered p then [] else [p]:=by
   rw [List.filter_append,List.filter_cons];cases mine c.stream c.mid c.ordered p <;> rfl
  by_cases c1:p.chunk.stream=c.stream
  case neg =>
   have hm:mine c.stream c.mid c.ordered p=false:=by simp [mine,c1]
   rw [hm] at e1 e2
   refine zab (by simpa using c1) ?_;conv=>whnf
   try (refine hcut.go ?_;conv=>whnf)
   refine zaa (c:=(((a.filter fun p=>!mine c.stream c.mid c.ordered p).map Piece.row).length+1) * 136 <= 140737488355328) (by simp;omega) ?_;conv=>whnf
   try (refine hcut.go ?_;conv=>whnf)
   refine sF ?_
   exact ⟨⟨(a++[p],b),zae h⟩,(hle_X [(3,some 3),(900,some 900),(901,some 45)] (by repeat' (first | exact z0 | refine z1 ?_ | refine ⟨?_,?_⟩ | ((exact zat (f:=Piece.row) e2 rfl)) | ((exact zao (by rw [e1];simp))) | exact z2))),by simp⟩
  refine zad (by simpa using c1) ?_;conv=>whnf
  by_cases c2:p.chunk.mid=c.mid
  case neg =>
   have hm:mine c.stream c.mid c.ordered p=false:=by simp [mine,c2]
   rw [hm] at e1 e2
   refine zab (by simpa using c2) ?_;conv=>whnf
   try (refine hcut.go ?_;conv=>whnf)
   refine zaa (c:=(((a.filter fun p=>!mine c.stream c.mid c.ordered p).map Piece.row).length+1) * 136 <= 140737488355328) (by simp;omega) ?_;conv=>whnf
   try (refine hcut.go ?_;conv=>whnf)
   refine sF ?_
   exact ⟨⟨(a++[p],b),zae h⟩,(hle_X [(3,some 3),(900,some 900),(901,some 45)] (by repeat' (first | exact z0 | refine z1 ?_ | refine ⟨?_,?_⟩ | ((exact zat (f:=Piece.row) e2 rfl)) | ((exact zao (by rw [e1];simp))) | exact z2))),by simp⟩
  refine zad (by simpa using c2) ?_;conv=>whnf
  by_cases c3:p.chunk.ordered=c.ordered
  case neg =>
   have hm:mine c.stream c.mid c.ordered p=false:=by simp [mine,c3]
   rw [hm] at e1 e2
   refine zab (by simpa using c3) ?_;conv=>whnf
   try (refine hcut.go ?_;conv=>whnf)
   refine zaa (c:=(((a.filter fun p=>!mine c.stream c.mid c.ordered p).map Piece.row).length+1) * 136 <= 140737488355328) (by simp;omega) ?_;conv=>whnf
   try (refine hcut.go ?_;conv=>whnf)
   refine sF ?_
   exact ⟨⟨(a++[p],b),zae h⟩,(hle_X [(3,some 3),(900,some 900),(901,some 45)] (by repeat' (first | exact z0 | refine z1 ?_ | refine ⟨?_,?_⟩ | ((exact zat (f:=Piece.row) e2 rfl)) | ((exact zao (by rw [e1];simp))) | exact z2))),by simp⟩
  have hm:mine c.stream c.mid c.ordered p=true:=by simp [mine,c1,c2,c3]
  rw [hm] at e1 e2
  refine zad (by simpa using c3) ?_;conv=>whnf
  try (refine hcut.go ?_;conv=>whnf)
  refine zaa (c:=(((a.filter (mine c.stream c.mid c.ordered)).map Piece.row).length+1) * 136 <= 140737488355328) (by simp;omega) ?_;conv=>whnf
  try (refine hcut.go ?_;conv=>whnf)
  refine sF ?_
  exact ⟨⟨(a++[p],b),zae h⟩,(hle_X [(3,some 3),(900,some 41),(901,some 901)] (by repeat' (first | exact z0 | refine z1 ?_ | refine ⟨?_,?_⟩ | ((exact zat (f:=Piece.row) e1 rfl)) | ((exact zao (by rw [e2];simp))) | exact z2))),by simp⟩
 | nil =>
  have hz:=zaz h
  rw [List.append_nil] at h
  refine sN ?_
  rw [h]
  try rfl
end Rcv
end Go.HL
namespace Go.HL
open Go.Proofs
namespace Rcv
open Srt Jn Ser
set_option maxHeartbeats 4000000
set_option maxRecDepth 100000
set_option linter.unusedSimpArgs false
abbrev rints (l:List Int):HV:=.p (.sl 1 (l.map fun n=>[pi n]))
abbrev arrs (l:List Arrival):HV:=.p (.sl 4 (l.map Arrival.row))
def rdlv (r:Receiver) (s m:Int) (o any:Bool):Receiver × Bool :=
 (if (dlv r s m o).2 then (dlv r s m o).1 else if any then dropR r s m o else r,(dlv r s m o).2)
theorem zri (r:Receiver) (s m:Int) (o:Bool):rdlv r s m o false=dlv r s m o:=by
 unfold rdlv dlv
 split <;> rfl
theorem zhe (r:Receiver) (c:Chunk) (any:Bool) (h2:r.pieces.length < 2 ^ 22) (h3:tot r.pieces < 2 ^ 22) (h4:r.log.length < 2 ^ 38) :
 FunOK Tryz.prog 176 [r.hv,c.hv,hbool any] zac (.tup [(rdlv r c.stream c.mid c.ordered any).1.hv,hbool (rdlv r c.stream c.mid c.ordered any).2]) zac:=by
 refine zah mixed Tryz.func176 (by decide) ?_
 have hf:=List.length_filter_le (mine c.stream c.mid c.ordered) r.pieces
 have ht:=zis (mine c.stream c.mid c.ordered) r.pieces
 conv=>whnf
 (refine cP ?_;refine dL (zrh r.pieces c (by omega)) ?_)
 have ps:=yfc (r.pieces.filter (mine c.stream c.mid c.ordered)) (by omega) (by omega)
 cases hj:join (r.pieces.filter (mine c.stream c.mid c.ordered)) with
 | none =>
  rw [hj] at ps
  have hd:dlv r c.stream c.mid c.ordered=(r,false):=by rw [dlv,hj]
  (refine zap [(0,910)]  ?_;(conv=>whnf);refine dO ps ?_)
  cases any with
  | false =>
   conv=>whnf
   try (refine hcut.go ?_;conv=>whnf)
   rw [rdlv,hd];rfl
  | true =>
   conv=>whnf
   try (refine hcut.go ?_;conv=>whnf)
   rw [rdlv,hd];rfl
 | some b =>
  rw [hj] at ps
  have hd:dlv r c.stream c.mid c.ordered=({ dropR r c.stream c.mid c.ordered with log:=r.log++[⟨c.stream,c.mid,c.ordered,b⟩] },true):=by rw [dlv,hj]
  (refine zap [(0,910)]  ?_;(conv=>whnf);refine dO ps ?_)
  refine zaa (c:=(([]:List (List PV)).length+(r.log.map Arrival.row).length) * 48 <= 140737488355328) (by simp;omega) ?_;conv=>whnf
  try (refine hcut.go ?_;conv=>whnf)
  refine zaa (c:=(([]++r.log.map Arrival.row).length+1) * 48 <= 140737488355328) (by simp;omega) ?_;conv=>whnf
  refine sD ?_
  rw [rdlv,hd]
  have hl:r.log.map Arrival.row++[Arrival.row ⟨c.stream,c.mid,c.ordered,b⟩]=(r.log++[(⟨c.stream,c.mid,c.ordered,b⟩:Arrival)]).map Arrival.row:=by simp
  exact congrArg (fun l=>HV.tup [.agg (rcvC r (spans r.spans) (pieces (r.pieces.filter fun p=>!mine c.stream c.mid c.ordered p)) (rints r.turn) (.p (.sl 4 l))),hbool true]) hl
theorem yno {r:Receiver} {s m:Int} {o:Bool} (h:(dlv r s m o).2=false):(dlv r s m o).1=r:=by
 unfold dlv at h ⊢
 split
 . rfl
 . rename_i b hj;rw [hj] at h;cases h
theorem yjl (r:Receiver) (s m:Int) (h2:r.pieces.length < 2 ^ 22) (h3:tot r.pieces < 2 ^ 22) (h4:r.log.length < 2 ^ 38) :
 FunOK Tryz.prog 176 [r.hv,(Chunk.mk 0 0 s m 0 false true [] [] 0 []).hv,hbool false] zac (.tup [(dlv r s m true).1.hv,hbool (dlv r s m true).2]) zac:=by
 have h:=zhe r (Chunk.mk 0 0 s m 0 false true [] [] 0 []) false h2 h3 h4
 rwa [zri] at h
theorem zzq (r:Receiver) (k:Nat) (hf:TFit r k) (ht9:r.turn.length < 2 ^ 30):FunOK Tryz.prog 175 [r.hv,i64 k] zac (turns r k).hv zac:=by
 generalize hT:turns r k=T
 refine zah mixed Tryz.func175 (by decide) ?_
 conv=>whnf
 refine ⟨{ x:Bool × Receiver // TFit x.2 k /\ turns x.2 k=T /\ x.2.turn.length < 2 ^ 30 },fun
  | ⟨(false,x),_⟩=>hs 36 [(1,i64 k),(2,.ptr 2 0),(4,.ptr 4 0)] [(2,.live (.cells 37 (rcvC x (spans x.spans) (pieces x.pieces) (rints x.turn) (arrs x.log)))),(4,.live (.cells 37 zeroR))]
  | ⟨(true,x),_⟩=>hs 36 [(1,i64 k),(2,.ptr 2 0),(4,.ptr 4 0)] [(2,.live (.cells 37 (rcvC x (spans x.spans) (pieces x.pieces) (.own 900) (arrs x.log)))),(4,.live (.cells 37 zeroR)),(900,rowT x.turn)],fun x=>x.1.2.pieces.length,⟨(false,r),hf,hT,ht9⟩,?_,?_⟩
 . exact (hle_Q [(2,some 2),(4,some 4)])
 rintro ⟨⟨b,x⟩,⟨h1,h2,h3,h4,h5,h6⟩,he,h9⟩
 dsimp only at h1 h2 h3 h4 h5 h6 he h9
 have hg:x.turn[k]?.getD 0=x.turn[k]:=by simp [h4]
 have hstep:=zrf x k
 rw [he,hg] at hstep
 rw [hg] at h5 h6
 obtain ⟨k1,k2,k3,k4,k5,k6,k7⟩:=zhy x k (tag x.turn[k]) true
 have hless:(dlv x k (tag x.turn[k]) true).2=true -> (dlv x k (tag x.turn[k]) true).1.pieces.length < x.pieces.length:=fun h=>zkm h
 have hno:(dlv x k (tag x.turn[k]) true).2=false -> (dlv x k (tag x.turn[k]) true).1=x:=fun h=>yno h
 have ps:=yjl x k (tag x.turn[k]) (by omega) (by omega) (by omega)
 generalize hD:dlv x k (tag x.turn[k]) true=D at *
 obtain ⟨y,ok⟩:=D
 dsimp only at k1 k2 k3 k4 k5 k6 k7 hless hstep hno ps
 have h4':k < y.turn.length:=by rw [k1];exact h4
 have hyk:y.turn[k]=x.turn[k]:=by simp only [k1]
 cases b with
 | false =>
  conv=>whnf
  try refine sO ?_
  refine zbj k rfl h4 ?_;conv=>whnf
  (refine cL ?_;refine dL (zbr _) ?_)
  (refine cP ?_;refine dL ps ?_)
  refine sD ?_
  cases ok with
  | false =>
   have hstep:T=y:=hstep
   rw [hno rfl] at hstep
   subst hstep
   conv=>whnf
   try (refine hcut.go ?_;conv=>whnf)
   try rfl
  | true =>
   have hless:=hless rfl
   conv=>whnf
   try (refine hcut.go ?_;conv=>whnf)
   refine zaa (c:=(([]:List (List PV)).length+(y.turn.map fun n=>[pi n]).length) * 8 <= 140737488355328) (by rw [List.length_map,k1];simp;omega) ?_;conv=>whnf
   refine sO ?_
   refine zbj k rfl h4' ?_;conv=>whnf
   rw [hyk]
   refine sF ?_
   refine sO ?_
   refine zbj k rfl h4' ?_;conv=>whnf
   have hb:(bump y k).turn[k]?.getD 0=x.turn[k]+1:=by
    show (y.turn.set k (y.turn[k]?.getD 0+1))[k]?.getD 0=_
    rw [List.getElem?_set_self h4',List.getElem?_eq_getElem h4',hyk];rfl
   refine ⟨⟨(true,bump y k),⟨by show y.pieces.length < _;omega,by show tot y.pieces < _;omega,by show y.log.length+y.pieces.length < _;omega,by show k < (y.turn.set k _).length;rw [List.length_set];exact h4',by rw [hb];omega,by rw [hb];show _+(y.pieces.length:Int) < _;omega⟩,by rw [hstep];rfl,by show (y.turn.set k _).length < _;rw [List.length_set,k1];exact h9⟩,(hle_X [(2,some 2),(4,some 4),(900,some 26)] (by repeat' (first | exact z0 | refine z1 ?_ | refine ⟨?_,?_⟩ | ((refine zao ?_;show _=(y.turn.set k (y.turn[k]?.getD 0+1)).map _;rw [List.map_set,List.getElem?_eq_getElem h4',hyk];rfl)) | exact z2))),by show y.pieces.length < x.pieces.length;omega⟩
 | true =>
  conv=>whnf
  try refine sO ?_
  refine zbj k rfl h4 ?_;conv=>whnf
  (refine cL ?_;refine dL (zbr _) ?_)
  (refine cP ?_;refine dL ps ?_)
  refine sD ?_
  cases ok with
  | false =>
   have hstep:T=y:=hstep
   rw [hno rfl] at hstep
   subst hstep
   conv=>whnf
   try (refine hcut.go ?_;conv=>whnf)
   try rfl
  | true =>
   have hless:=hless rfl
   conv=>whnf
   try (refine hcut.go ?_;conv=>whnf)
   refine zaa (c:=(([]:List (List PV)).length+(y.turn.map fun n=>[pi n]).length) * 8 <= 140737488355328) (by rw [List.length_map,k1];simp;omega) ?_;conv=>whnf
   refine sO ?_
   refine zbj k rfl h4' ?_;conv=>whnf
   rw [hyk]
   refine sF ?_
   refine sO ?_
   refine zbj k rfl h4' ?_;conv=>whnf
   have hb:(bump y k).turn[k]?.getD 0=x.turn[k]+1:=by
    show (y.turn.set k (y.turn[k]?.getD 0+1))[k]?.getD 0=_
    rw [List.getElem?_set_self h4',List.getElem?_eq_getElem h4',hyk];rfl
   refine ⟨⟨(true,bump y k),⟨by show y.pieces.length < _;omega,by show tot y.pieces < _;omega,by show y.log.length+y.pieces.length < _;omega,by show k < (y.turn.set k _).length;rw [List.length_set];exact h4',by rw [hb];omega,by rw [hb];show _+(y.pieces.length:Int) < _;omega⟩,by rw [hstep];rfl,by show (y.turn.set k _).length < _;rw [List.length_set,k1];exact h9⟩,(hle_X [(2,some 2),(4,some 4),(900,some 26)] (by repeat' (first | exact z0 | refine z1 ?_ | refine ⟨?_,?_⟩ | ((refine zao ?_;show _=(y.turn.set k (y.turn[k]?.getD 0+1)).map _;rw [List.map_set,List.getElem?_eq_getElem h4',hyk];rfl)) | exact z2))),by show y.pieces.length < x.pieces.length;omega⟩
end Rcv
end Go.HL
namespace Go.HL
open Go.Proofs
namespace Rcv
open Srt Jn Ser
set_option maxHeartbeats 4000000
set_option maxRecDepth 100000
set_option linter.unusedSimpArgs false
theorem zxe (l:List Span) (n:Int) (hr:rise l) (hl:∀ s ∈ l,s.hi <= 1099511627776) (hb:l.length < 2 ^ 39) (h1:-1099511627776 <= n) (h2:n <= 1099511627776) :
 FunOK Tryz.prog 173 [spans l,i64 n] zac (.tup [i64 (up l n).1,spans (up l n).2]) zac:=by
 refine zch Tryz.func173 (ymi l n hr hl hb h1 h2) ?_
 conv=>whnf
theorem yfe (l:List Span) (n:Int) (hn:has l n=false) (hl:rise l) (hb:l.length < 2 ^ 39) (h1:-1099511627776 <= n) (h2:n <= 1099511627776) :
 FunOK Tryz.prog 174 [spans l,i64 n] zac (spans (add l n)) zac:=by
 refine zch Tryz.func174 (yjj l n hn hl hb h1 h2) ?_
 conv=>whnf
theorem zfd (r:Receiver) (k:Nat) (z:Int) (hz:z=k) {rows:List (List PV)} (hrows:rows=r.pieces.map Piece.row) (hf:TFit r k) (ht9:r.turn.length < 2 ^ 30) :
 FunOK Tryz.prog 175 [.agg (rcvC r (spans r.spans) (.p (.sl 12 rows)) (rints r.turn) (arrs r.log)),i64 z] zac (turns r k).hv zac:=by
 subst hz hrows;exact zzq r k hf ht9
theorem zkn (r:Receiver) (c:Chunk) {rows:List (List PV)} (hrows:rows=r.pieces.map Piece.row) (h2:r.pieces.length < 2 ^ 22) (h3:tot r.pieces < 2 ^ 22) (h4:r.log.length < 2 ^ 38) :
 FunOK Tryz.prog 176 [.agg (rcvC r (spans r.spans) (.p (.sl 12 rows)) (rints r.turn) (arrs r.log)),c.hv,hbool false] zac (.tup [(dlv r c.stream c.mid c.ordered).1.hv,hbool (dlv r c.stream c.mid c.ordered).2]) zac:=by
 subst hrows
 have h:=zhe r c false h2 h3 h4
 rwa [zri] at h
theorem yff (r:Receiver) (c:Chunk) {N:Nat} (h:RFit N r) (hN:N <= 2 ^ 20) (hc:c.data.length <= 2 ^ 20):FunOK Tryz.prog 146 [r.hv,c.hv] zac (data r c).hv zac:=by
 obtain ⟨h1,h2,h3,h4,h5,h6,h7,h8,h9⟩:=h.dfit hN hc
 obtain ⟨n1,n2,n3⟩:=zhp (a:=r.cum) (t:=c.tag) (by omega) (by omega)
 generalize hD:data r c=D
 refine zah mixed Tryz.func146 (by decide) ?_
 conv=>whnf
 (refine cL ?_;refine dL (zgp r.cum c.tag (by omega) (by omega)) ?_)
 have no:¬ Takes r c (near r.cum c.tag) -> D=r:=fun h=>by rw [<- hD,data,if_neg h]
 by_cases c1:c.kind=1
 case neg =>
  have e:=no fun h=>c1 h.1
  subst e
  refine zad (by simpa using c1) ?_;conv=>whnf
  repeat (refine hcut.go ?_;conv=>whnf)
  try rfl
 refine zab (by simp [c1]) ?_;conv=>whnf
 by_cases c2:c.stream < 0
 . have e:=no fun h=>by have:=h.2;omega
   subst e
   refine zad (by simpa using c2) ?_;conv=>whnf
   repeat (refine hcut.go ?_;conv=>whnf)
   try rfl
 refine zab (by simpa using c2) ?_;conv=>whnf
 by_cases c3:c.stream >= r.turn.length
 . have e:=no fun h=>by have:=h.3;omega
   subst e
   refine zad (by simpa using c3) ?_;conv=>whnf
   repeat (refine hcut.go ?_;conv=>whnf)
   try rfl
 refine zab (by simpa using c3) ?_;conv=>whnf
 by_cases c4:near r.cum c.tag <= r.cum
 . have e:=no fun h=>by have:=h.4;omega
   subst e
   refine zad (by simpa using c4) ?_;conv=>whnf
   repeat (refine hcut.go ?_;conv=>whnf)
   try rfl
 refine zab (by simpa using c4) ?_;conv=>whnf
 (refine cL ?_;refine dL (zyq r.spans (near r.cum c.tag) (by have:=h1.spans;omega)) ?_)
 cases c5:has r.spans (near r.cum c.tag) with
 | true =>
  have e:=no fun h=>by have:=h.5;rw [c5] at this;cases this
  subst e
  conv=>whnf
  repeat (refine hcut.go ?_;conv=>whnf)
  try rfl
 | false =>
 conv=>whnf
 repeat (refine hcut.go ?_;conv=>whnf)
 refine sF ?_
 have g1:=h1.spans
 have g2:=h1.log
 have rest:Takes r c (near r.cum c.tag) -> D=if c.ordered then turns (put r c) c.stream.toNat else (dlv (put r c) c.stream c.mid false).1:=fun h=>by rw [<- hD,data,if_pos h]
 have hput:tot (put r c).pieces=tot r.pieces+c.data.length:=by show tot (r.pieces++[_])=_;rw [ztu,zet];rfl
 have hpl:(put r c).pieces.length=r.pieces.length+1:=by show (r.pieces++[_]).length=_;simp
 have hadd:=ynn (n:=near r.cum c.tag) (M:=1099511627776) h2 (by omega) (by omega) (fun s hs=>by have:=h3 s hs;omega) (by omega)
 have hal:=ycp r.spans (near r.cum c.tag)
 have har:=(ztw h2 (n:=near r.cum c.tag) (by omega) (by omega)).1
 by_cases c6:near r.cum c.tag=r.cum+1
 case' pos =>
  have ok:Takes r c (near r.cum c.tag):=⟨c1,by omega,by omega,by omega,c5,.inl c6⟩
  refine zab (by rw [decide_eq_false_iff_not];omega) ?_;conv=>whnf
  ((refine zas ?_ ?_;(· kernel_rfl);conv=>whnf);try (refine hcut.go ?_;conv=>whnf))
 case' neg =>
  refine zad (by rw [decide_eq_true_eq];omega) ?_;conv=>whnf
  (refine cL ?_;refine dL (zln r (by omega) (by omega)) ?_)
  refine sF ?_
  by_cases c7:(tot r.pieces:Int)+c.data.length > 400
  case pos =>
   have e:=no fun h=>by have:=h.6;omega
   subst e
   refine sD ?_
   refine zad (by simpa using c7) ?_;conv=>whnf
   repeat (refine hcut.go ?_;conv=>whnf)
   try rfl
  have ok:Takes r c (near r.cum c.tag):=⟨c1,by omega,by omega,by omega,c5,.inr (by omega)⟩
  refine sD ?_
  refine zab (by simpa using c7) ?_;conv=>whnf
  repeat (refine hcut.go ?_;conv=>whnf)
 all_goals (
  have rest:=rest ok
  refine zaa (c:=(([]:List (List PV)).length+(r.pieces.map Piece.row).length) * 136 <= 140737488355328) (by simp;omega) ?_;conv=>whnf
  try (refine hcut.go ?_;conv=>whnf)
  refine zaa (c:=(([]++r.pieces.map Piece.row).length+1) * 136 <= 140737488355328) (by simp;omega) ?_;conv=>whnf
  refine sD ?_
  (refine cP ?_;refine dL (yfe r.spans (near r.cum c.tag) c5 h2 (by omega) (by omega) (by omega)) ?_)
  (refine cP ?_;refine dL (zxe (add r.spans (near r.cum c.tag)) r.cum har hadd (by omega) (by omega) (by omega)) ?_)
  refine sD ?_
  obtain ⟨k,hk⟩:∃ k:Nat,c.stream=k:=⟨c.stream.toNat,by omega⟩
  have hkl:k < r.turn.length:=by omega
  have htk:(put r c).turn[k]?.getD 0=r.turn[k]:=by show r.turn[k]?.getD 0=_;rw [List.getElem?_eq_getElem hkl];rfl
  have htb:=h6 _ (List.getElem_mem hkl)
  refine zaf (fun ho=>?_) (fun ho=>?_)
  . rw [if_pos ho,show c.stream.toNat=k by omega] at rest
    subst rest
    conv=>whnf
    ((refine zcf ?_;(conv=>whnf);refine ⟨_,zfd (put r c) k _ hk (by simp [put];rfl) ⟨by omega,by omega,by show r.log.length+_ < _;omega,hkl,by rw [htk];omega,by rw [htk];omega⟩ h.streams,rfl,?_⟩;conv=>whnf);try (refine hcut.go ?_;conv=>whnf))
    try rfl
  . rw [if_neg (by rw [ho];decide)] at rest
    subst rest
    conv=>whnf
    (refine cP ?_;refine dL (zkn (put r c) c (by simp [put];rfl) (by omega) (by omega) (by show r.log.length < _;omega)) ?_)
    rw [ho]
    try rfl)
end Rcv
end Go.HL
namespace Go.HL
open Go.Proofs
namespace Rcv
open Srt Jn Ser
set_option maxHeartbeats 4000000
set_option maxRecDepth 100000
set_option linter.unusedSimpArgs false
theorem zxf {r:Receiver} {k:Nat} {t:Int} (h:r.turn[k]?.getD 0=t):pass r k=bump (rdlv r k (tag t) true true).1 k:=by
 subst h
 unfold pass rdlv
 cases hd:(dlv r k (tag (r.turn[k]?.getD 0)) true).2 with
 | true=>rfl
 | false=>rw [yno hd];rfl
theorem zxg (r:Receiver) (s m:Int) (o any:Bool):(rdlv r s m o any).1.turn=r.turn:=by
 unfold rdlv
 split
 . exact (zhy r s m o).1
 . split <;> rfl
theorem zrj (r:Receiver) (s m z:Int) (hz:z=m) (h2:r.pieces.length < 2 ^ 22) (h3:tot r.pieces < 2 ^ 22) (h4:r.log.length < 2 ^ 38) :
 FunOK Tryz.prog 176 [r.hv,(Chunk.mk 0 0 s z 0 false true [] [] 0 []).hv,hbool true] zac (.tup [(rdlv r s m true true).1.hv,hbool (rdlv r s m true true).2]) zac:=by
 subst hz
 exact zhe r (Chunk.mk 0 0 s z 0 false true [] [] 0 []) true h2 h3 h4
def fwIn (k:Nat) (n:Int) (T:Receiver) (y:Bool × Receiver × Int):Prop:=TFit y.2.1 k /\ y.2.1.turn[k]?.getD 0=y.2.2 /\ y.2.2 <= 2 ^ 58 /\ turns (upto y.2.1 k n) k=T /\ y.2.1.turn.length < 2 ^ 30
def fwSt (c:Chunk) (s:Skip) (L:Nat) (n:Int):Bool × Receiver × Int -> HS
 | (false,y,m)=>hs 118 [(2,.ptr 2 0),(4,.ptr 4 0),(7,.ptr 7 0),(10,i64 n),(11,i64 m),(37,.p (.sl 3 (c.skips.map Skip.row))),(38,i64 c.skips.length),(39,i64 L)] [(2,.live (.cells 37 (rcvC y (spans y.spans) (pieces y.pieces) (rints y.turn) (arrs y.log)))),(4,.live (.cells 37 zeroR)),(7,.live (.cells 180 [i64 s.stream,i64 s.mid,hbool s.ordered]))]
 | (true,y,m)=>hs 118 [(2,.ptr 2 0),(4,.ptr 4 0),(7,.ptr 7 0),(10,i64 n),(11,i64 m),(37,.p (.sl 3 (c.skips.map Skip.row))),(38,i64 c.skips.length),(39,i64 L)] [(2,.live (.cells 37 (rcvC y (spans y.spans) (pieces y.pieces) (.own 900) (arrs y.log)))),(4,.live (.cells 37 zeroR)),(7,.live (.cells 180 [i64 s.stream,i64 s.mid,hbool s.ordered])),(900,rowT y.turn)]
def fwOut (c:Chunk) (L:Nat) (x:Receiver):HS:=hs 118 [(2,.ptr 2 0),(4,.ptr 4 0),(37,.p (.sl 3 (c.skips.map Skip.row))),(38,i64 c.skips.length),(39,i64 L)] [(2,.live (.cells 37 (rcvC x (spans x.spans) (pieces x.pieces) (rints x.turn) (arrs x.log)))),(4,.live (.cells 37 zeroR))]
theorem zua (r:Receiver) (c:Chunk) {N:Nat} (h:RFit N r) (hN:N <= 2 ^ 20) (hc:c.skips.length <= 2 ^ 20):FunOK Tryz.prog 147 [r.hv,c.hv] zac (forward r c).hv zac:=by
 have hfit:=h.fit hN
 have h4:=h.rise
 have h6:=h.his
 have h7:=h.cum1
 have h8:=h.cum2
 obtain ⟨n1,n2,n3⟩:=zhp (a:=r.cum) (t:=c.tag) (by omega) (by omega)
 generalize hD:forward r c=D
 refine zah mixed Tryz.func147 (by decide) ?_
 conv=>whnf
 (refine cL ?_;refine dL (zgp r.cum c.tag (by omega) (by omega)) ?_)
 by_cases c1:c.kind=3
 case neg =>
  obtain rfl:r=D:=by rw [<- hD,forward,if_pos (.inl c1)]
  refine zad (by simpa using c1) ?_;conv=>whnf
  repeat (refine hcut.go ?_;conv=>whnf)
  try rfl
 refine zab (by simp [c1]) ?_;conv=>whnf
 by_cases c2:near r.cum c.tag <= r.cum
 . obtain rfl:r=D:=by rw [<- hD,forward,if_pos (.inr c2)]
   refine zad (by simpa using c2) ?_;conv=>whnf
   repeat (refine hcut.go ?_;conv=>whnf)
   try rfl
 refine zab (by simpa using c2) ?_;conv=>whnf
 repeat (refine hcut.go ?_;conv=>whnf)
 have hw:=h.up (by omega) (n:=near r.cum c.tag) (by omega) (by omega)
 have e:c.skips.foldl skip1 (at_up r (near r.cum c.tag))=D:=by rw [<- hD,forward,if_neg (by simp [c1];omega)];rfl
 (refine cP ?_;refine dL (zxe r.spans (near r.cum c.tag) h4 (fun s hs=>by have:=h6 s hs;omega) (by have:=hfit.spans;omega) (by omega) (by omega)) ?_)
 refine ⟨{ x:Receiver × List Skip × List Skip // c.skips=x.2.1++x.2.2 /\ RFit (N+1+x.2.1.length) x.1 /\ x.2.2.foldl skip1 x.1=D },fun x=>fwOut c x.1.2.1.length x.1.1,fun x=>x.1.2.2.length,⟨(at_up r (near r.cum c.tag),[],c.skips),rfl,hw,e⟩,?_,?_⟩
 . exact (hle_Q [(2,some 2),(4,some 4)])
 rintro ⟨⟨x,a,b⟩,h1,h2,h3⟩
 dsimp only at h1 h2 h3
 refine zbk fun Q0 hQ0=>?_
 conv=>whnf
 cases b with
 | nil =>
  have hz:=zaz h1
  have h3:x=D:=h3
  subst h3
  refine sN ?_
  refine hQ0 _ _ ?_;conv=>whnf
  try rfl
 | cons s b =>
  have hz:=zar h1
  have hsf:=h2.sfit (by omega)
  obtain ⟨f1,f2,f3,f4,f5⟩:=hsf
  have next:RFit (N+1+(a++[s]).length) (skip1 x s):=by have:=h2.skip (by omega) s;simpa [Nat.add_assoc] using this
  have h2h:=h2.hi
  have h2l:=h2.lo
  have h2s:=h2.streams
  have h3:b.foldl skip1 (skip1 x s)=D:=h3
  generalize hT:skip1 x s=T at next h3
  refine sT ?_
  refine zaj h1 rfl ?_;conv=>whnf
  by_cases c3:s.stream < 0
  . rw [skip1,if_pos (.inl c3)] at hT
    subst hT
    refine zad (by simpa using c3) ?_;conv=>whnf
    repeat (refine hcut.go ?_;conv=>whnf)
    refine sF ?_
    refine hQ0 _ _ ?_;conv=>whnf
    exact ⟨⟨(x,a++[s],b),zae h1,next,h3⟩,(hle_Q [(2,some 2),(4,some 4)]),by simp⟩
  refine zab (by simpa using c3) ?_;conv=>whnf
  by_cases c4:(x.turn.length:Int) <= s.stream
  . rw [skip1,if_pos (.inr c4)] at hT
    subst hT
    refine zad (by simpa using c4) ?_;conv=>whnf
    repeat (refine hcut.go ?_;conv=>whnf)
    refine sF ?_
    refine hQ0 _ _ ?_;conv=>whnf
    exact ⟨⟨(x,a++[s],b),zae h1,next,h3⟩,(hle_Q [(2,some 2),(4,some 4)]),by simp⟩
  refine zab (by simpa using c4) ?_;conv=>whnf
  repeat (refine hcut.go ?_;conv=>whnf)
  refine zaf (fun ho=>?_) (fun ho=>?_)
  . have ho:s.ordered=false:=by simpa using ho
    rw [skip1,if_neg (by omega),if_pos ho] at hT
    conv=>whnf
    repeat (refine hcut.go ?_;conv=>whnf)
    (refine cP ?_;refine dL (zrh x.pieces (Chunk.mk 0 0 s.stream s.mid 0 false false [] [] 0 []) (by omega)) ?_)
    subst hT
    refine sF ?_
    refine hQ0 _ _ ?_;conv=>whnf
    exact ⟨⟨(dropR x s.stream s.mid false,a++[s],b),zae h1,next,h3⟩,(hle_Q [(2,some 2),(4,some 4)]),by simp⟩
  have ho:s.ordered=true:=by simpa using ho
  rw [skip1,if_neg (by omega),if_neg (by rw [ho];decide)] at hT
  obtain ⟨k,hk⟩:∃ k:Nat,s.stream=k:=⟨s.stream.toNat,by omega⟩
  have hkl:k < x.turn.length:=by omega
  have hg:x.turn[k]?.getD 0=x.turn[k]:=by simp [hkl]
  have b1:=h2l _ (List.getElem_mem hkl)
  have b2:=h2h _ (List.getElem_mem hkl)
  have b3:=f5 _ (List.getElem_mem hkl)
  rw [show s.stream.toNat=k by omega,hg] at hT
  conv=>whnf
  repeat (refine hcut.go ?_;conv=>whnf)
  refine zbj k (by omega) hkl ?_;conv=>whnf
  (refine cL ?_;refine dL (zgp x.turn[k] s.mid (by omega) (by omega)) ?_)
  refine sD ?_
  obtain ⟨m1,m2,m3⟩:=zhp (a:=x.turn[k]) (t:=s.mid) (by omega) (by omega)
  generalize near x.turn[k] s.mid=n at hT m1 m2 m3 ⊢
  refine zbj k (by omega) hkl ?_;conv=>whnf
  have start:fwIn k n T (false,x,x.turn[k]):=⟨⟨f1,f2,f3,hkl,by show _ < x.turn[k]?.getD 0;rw [hg];omega,by show x.turn[k]?.getD 0+(x.pieces.length:Int) < _;rw [hg];omega⟩,hg,by dsimp only;omega,hT,h2s⟩
  refine ⟨{ y:Bool × Receiver × Int // fwIn k n T y },fun y=>fwSt c s a.length n y.1,fun y=>(n+1 - y.1.2.2).toNat,⟨(false,x,x.turn[k]),start⟩,?_,?_⟩
  . exact (hle_Q [(2,some 2),(4,some 4),(7,some 7)])
  rintro ⟨⟨bb,y,m⟩,⟨g1,g2,g3,g4,g5,g6⟩,gm,g7,he,g9⟩
  dsimp only at g1 g2 g3 g4 g5 g6 gm g7 he g9
  rw [gm] at g5 g6
  refine zbk fun Q hQ=>?_
  cases bb with
  | false =>
   conv=>whnf
   by_cases c5:m <= n
   . rw [zwz g4 (by rw [gm];exact c5)] at he
     obtain ⟨k1,k2,k3,k4,k5,k6,k7⟩:=zlo y k
     have hgt:(pass y k).turn[k]?.getD 0=m+1:=by rw [k1,List.getElem?_set_self g4,gm];rfl
     have nx:TFit (pass y k) k /\ (pass y k).turn[k]?.getD 0=m+1 /\ m+1 <= 2 ^ 58 /\ turns (upto (pass y k) k n) k=T /\ (pass y k).turn.length < 2 ^ 30:=⟨⟨by omega,by omega,by omega,by rw [k1,List.length_set];exact g4,by rw [hgt];omega,by rw [hgt];omega⟩,hgt,by omega,he,by rw [k1,List.length_set];exact g9⟩
     have hpas:=zxf (r:=y) (k:=k) gm
     have hrt:=zxg y k (tag m) true true
     refine sT ?_
     (refine cL ?_;refine dL (zbr m) ?_)
     rw [<- hk] at hpas hrt
     (refine cP ?_;refine dL (zrj y s.stream (tag m) (tag m) rfl (by omega) (by omega) (by omega)) ?_)
     generalize rdlv y s.stream (tag m) true true=D' at hpas hrt ⊢
     obtain ⟨w,okk⟩:=D'
     dsimp only at hpas hrt
     have hwl:k < w.turn.length:=by rw [hrt];exact g4
     refine sD ?_
     refine zaa (c:=(([]:List (List PV)).length+(w.turn.map fun n=>[pi n]).length) * 8 <= 140737488355328) (by rw [List.length_map,hrt];simp;omega) ?_;conv=>whnf
     repeat (refine hcut.go ?_;conv=>whnf)
     refine sF ?_
     refine sO ?_
     refine zbj k (by omega) hwl ?_;conv=>whnf
     refine sF ?_
     rw [hpas] at nx
     refine hQ _ _ ?_;conv=>whnf
     have nx:fwIn k n T (true,bump w k,m+1):=nx
     exact ⟨⟨(true,bump w k,m+1),nx⟩,(hle_X [(2,some 2),(4,some 4),(7,some 7),(900,some 103)] (by repeat' (first | exact z0 | refine z1 ?_ | refine ⟨?_,?_⟩ | ((refine zao ?_;show _=(w.turn.set k (w.turn[k]?.getD 0+1)).map _;rw [List.map_set,show (w.turn[k]?.getD 0)=m by rw [hrt,gm]];(try rw [hk]);(try rfl))) | exact z2))),by dsimp only;omega⟩
   . rw [ycq (by rw [gm];omega)] at he
     subst he
     refine sN ?_
     refine hQ _ _ ?_;conv=>whnf
     (refine cP ?_;refine dL (zfd y k _ hk rfl ⟨g1,g2,g3,g4,by rw [gm];omega,by rw [gm];omega⟩ g9) ?_)
     refine sF ?_
     refine hQ0 _ _ ?_;conv=>whnf
     exact ⟨⟨(turns y k,a++[s],b),zae h1,next,h3⟩,(hle_Q [(2,some 2),(4,some 4)]),by simp⟩
  | true =>
   conv=>whnf
   by_cases c5:m <= n
   . rw [zwz g4 (by rw [gm];exact c5)] at he
     obtain ⟨k1,k2,k3,k4,k5,k6,k7⟩:=zlo y k
     have hgt:(pass y k).turn[k]?.getD 0=m+1:=by rw [k1,List.getElem?_set_self g4,gm];rfl
     have nx:TFit (pass y k) k /\ (pass y k).turn[k]?.getD 0=m+1 /\ m+1 <= 2 ^ 58 /\ turns (upto (pass y k) k n) k=T /\ (pass y k).turn.length < 2 ^ 30:=⟨⟨by omega,by omega,by omega,by rw [k1,List.length_set];exact g4,by rw [hgt];omega,by rw [hgt];omega⟩,hgt,by omega,he,by rw [k1,List.length_set];exact g9⟩
     have hpas:=zxf (r:=y) (k:=k) gm
     have hrt:=zxg y k (tag m) true true
     refine sT ?_
     (refine cL ?_;refine dL (zbr m) ?_)
     rw [<- hk] at hpas hrt
     (refine cP ?_;refine dL (zrj y s.stream (tag m) (tag m) rfl (by omega) (by omega) (by omega)) ?_)
     generalize rdlv y s.stream (tag m) true true=D' at hpas hrt ⊢
     obtain ⟨w,okk⟩:=D'
     dsimp only at hpas hrt
     have hwl:k < w.turn.length:=by rw [hrt];exact g4
     refine sD ?_
     refine zaa (c:=(([]:List (List PV)).length+(w.turn.map fun n=>[pi n]).length) * 8 <= 140737488355328) (by rw [List.length_map,hrt];simp;omega) ?_;conv=>whnf
     repeat (refine hcut.go ?_;conv=>whnf)
     refine sF ?_
     refine sO ?_
     refine zbj k (by omega) hwl ?_;conv=>whnf
     refine sF ?_
     rw [hpas] at nx
     refine hQ _ _ ?_;conv=>whnf
     have nx:fwIn k n T (true,bump w k,m+1):=nx
     exact ⟨⟨(true,bump w k,m+1),nx⟩,(hle_X [(2,some 2),(4,some 4),(7,some 7),(900,some 103)] (by repeat' (first | exact z0 | refine z1 ?_ | refine ⟨?_,?_⟩ | ((refine zao ?_;show _=(w.turn.set k (w.turn[k]?.getD 0+1)).map _;rw [List.map_set,show (w.turn[k]?.getD 0)=m by rw [hrt,gm]];(try rw [hk]);(try rfl))) | exact z2))),by dsimp only;omega⟩
   . rw [ycq (by rw [gm];omega)] at he
     subst he
     refine sN ?_
     refine hQ _ _ ?_;conv=>whnf
     (refine cP ?_;refine dL (zfd y k _ hk rfl ⟨g1,g2,g3,g4,by rw [gm];omega,by rw [gm];omega⟩ g9) ?_)
     refine sF ?_
     refine hQ0 _ _ ?_;conv=>whnf
     exact ⟨⟨(turns y k,a++[s],b),zae h1,next,h3⟩,(hle_Q [(2,some 2),(4,some 4)]),by simp⟩
end Rcv
end Go.HL
namespace Go.HL
open Go.Proofs
namespace Rcv
open Srt Jn Ser
set_option maxHeartbeats 4000000
set_option maxRecDepth 100000
set_option linter.unusedSimpArgs false
theorem zzr (r:Receiver) (h1:r.spans.length < 2 ^ 40) (h2:r.pieces.length < 2 ^ 40) (h3:tot r.pieces < 2 ^ 60) (hc:-(2 ^ 60) <= r.cum) (hc2:r.cum <= 2 ^ 60) (hsp:∀ s ∈ r.spans,-(2 ^ 61) <= s.lo /\ s.lo <= 2 ^ 61 /\ -(2 ^ 61) <= s.hi /\ s.hi <= 2 ^ 61) :
 FunOK Tryz.prog 148 [r.hv] zac (tells r).hv zac:=by
 by_cases c0:400 - (tot r.pieces:Int) > 0
 . have e:tells r=⟨2,tag r.cum,0,0,0,false,false,[],(r.spans.take 6).map (shift r.cum),400 - (tot r.pieces:Int),[]⟩:=by rw [tells,if_neg (by omega)]
   rw [e]
   refine zah mixed Tryz.func148 (by decide) ?_
   conv=>whnf
   (refine cL ?_;refine dL (zbr r.cum) ?_)
   (refine cL ?_;refine dL (zln r (by omega) (by omega)) ?_)
   refine sF ?_
   refine zad (by simpa using c0) ?_;conv=>whnf
   repeat (refine hcut.go ?_;conv=>whnf)
   refine ⟨{ x:List Span × List Span // r.spans=x.1++x.2 },fun | ⟨(A,B),_⟩=>hs 46 [(1,.ptr 1 0),(2,.ptr 2 0),(3,.ptr 3 0),(19,spans r.spans),(20,i64 r.spans.length),(21,i64 A.length)] [(1,.live (.cells 37 (rcvC r (spans r.spans) (pieces r.pieces) (rints r.turn) (arrs r.log)))),(2,.live (.cells 61 [i64 0,i64 0,i64 0,i64 0,i64 0,hbool false,hbool false,hnil,hnil,i64 0,hnil])),(3,.live (.cells 61 [i64 2,i64 (tag r.cum),i64 0,i64 0,i64 0,hbool false,hbool false,hnil,.own 900,i64 (400 - (tot r.pieces:Int)),hnil])),(900,rowS ((A.take 6).map (shift r.cum)))],fun x=>x.1.2.length,⟨([],r.spans),rfl⟩,?_,?_⟩
   . exact (hle_Q [(1,some 1),(2,some 2),(3,some 3),(900,none)])
   rintro ⟨⟨A,B⟩,h⟩
   dsimp only at h
   have hl:r.spans.length=A.length+B.length:=by rw [h];simp
   conv=>whnf
   cases B with
   | cons p B =>
    have hp:=hsp p (by rw [h];simp)
    rw [List.length_cons] at hl
    have hq:((A.take 6).map (shift r.cum)).length=min 6 A.length:=by simp
    refine sT ?_
    refine zaj h rfl ?_;conv=>whnf
    have hsn:=zrg A p (shift r.cum)
    by_cases c:A.length < 6
    . rw [if_pos c] at hsn
      refine sT ?_
      refine sF ?_
      refine sF ?_
      refine zaa (c:=((((A.take 6).map (shift r.cum)).map Span.row).length+1) * 16 <= 140737488355328) (by simp;omega) ?_;conv=>whnf
      try (refine hcut.go ?_;conv=>whnf)
      refine sF ?_
      refine ⟨⟨(A++[p],B),by rw [h];simp⟩,(hle_X [(1,some 1),(2,some 2),(3,some 3),(900,some 42)] (by repeat' (first | exact z0 | refine z1 ?_ | refine ⟨?_,?_⟩ | ((exact zat (f:=Span.row) hsn rfl)) | exact z2))),by simp⟩
    . rw [if_neg c] at hsn
      refine sN ?_
      refine sF ?_
      refine ⟨⟨(A++[p],B),by rw [h];simp⟩,(hle_X [(1,some 1),(2,some 2),(3,some 3),(900,some 900)] (by repeat' (first | exact z0 | refine z1 ?_ | refine ⟨?_,?_⟩ | ((exact zao (by rw [hsn]))) | exact z2))),by simp⟩
   | nil =>
    rw [List.length_nil] at hl
    rw [List.append_nil] at h
    refine sN ?_
    rw [h]
    try rfl
 . have e:tells r=⟨2,tag r.cum,0,0,0,false,false,[],(r.spans.take 6).map (shift r.cum),0,[]⟩:=by
    rw [tells]
    congr 1
    split <;> omega
   rw [e]
   refine zah mixed Tryz.func148 (by decide) ?_
   conv=>whnf
   (refine cL ?_;refine dL (zbr r.cum) ?_)
   (refine cL ?_;refine dL (zln r (by omega) (by omega)) ?_)
   refine sF ?_
   refine zab (by simpa using c0) ?_;conv=>whnf
   repeat (refine hcut.go ?_;conv=>whnf)
   refine ⟨{ x:List Span × List Span // r.spans=x.1++x.2 },fun | ⟨(A,B),_⟩=>hs 46 [(1,.ptr 1 0),(2,.ptr 2 0),(3,.ptr 3 0),(19,spans r.spans),(20,i64 r.spans.length),(21,i64 A.length)] [(1,.live (.cells 37 (rcvC r (spans r.spans) (pieces r.pieces) (rints r.turn) (arrs r.log)))),(2,.live (.cells 61 [i64 0,i64 0,i64 0,i64 0,i64 0,hbool false,hbool false,hnil,hnil,i64 0,hnil])),(3,.live (.cells 61 [i64 2,i64 (tag r.cum),i64 0,i64 0,i64 0,hbool false,hbool false,hnil,.own 900,i64 (0),hnil])),(900,rowS ((A.take 6).map (shift r.cum)))],fun x=>x.1.2.length,⟨([],r.spans),rfl⟩,?_,?_⟩
   . exact (hle_Q [(1,some 1),(2,some 2),(3,some 3),(900,none)])
   rintro ⟨⟨A,B⟩,h⟩
   dsimp only at h
   have hl:r.spans.length=A.length+B.length:=by rw [h];simp
   conv=>whnf
   cases B with
   | cons p B =>
    have hp:=hsp p (by rw [h];simp)
    rw [List.length_cons] at hl
    have hq:((A.take 6).map (shift r.cum)).length=min 6 A.length:=by simp
    refine sT ?_
    refine zaj h rfl ?_;conv=>whnf
    have hsn:=zrg A p (shift r.cum)
    by_cases c:A.length < 6
    . rw [if_pos c] at hsn
      refine sT ?_
      refine sF ?_
      refine sF ?_
      refine zaa (c:=((((A.take 6).map (shift r.cum)).map Span.row).length+1) * 16 <= 140737488355328) (by simp;omega) ?_;conv=>whnf
      try (refine hcut.go ?_;conv=>whnf)
      refine sF ?_
      refine ⟨⟨(A++[p],B),by rw [h];simp⟩,(hle_X [(1,some 1),(2,some 2),(3,some 3),(900,some 42)] (by repeat' (first | exact z0 | refine z1 ?_ | refine ⟨?_,?_⟩ | ((exact zat (f:=Span.row) hsn rfl)) | exact z2))),by simp⟩
    . rw [if_neg c] at hsn
      refine sN ?_
      refine sF ?_
      refine ⟨⟨(A++[p],B),by rw [h];simp⟩,(hle_X [(1,some 1),(2,some 2),(3,some 3),(900,some 900)] (by repeat' (first | exact z0 | refine z1 ?_ | refine ⟨?_,?_⟩ | ((exact zao (by rw [hsn]))) | exact z2))),by simp⟩
   | nil =>
    rw [List.length_nil] at hl
    rw [List.append_nil] at h
    refine sN ?_
    rw [h]
    try rfl
end Rcv
end Go.HL
namespace Go.HL
open Go.Proofs
namespace Rcv
open Srt Jn Ser
set_option maxHeartbeats 4000000
set_option maxRecDepth 100000
set_option linter.unusedSimpArgs false
theorem yfg (c:Config) (h1:-9223372036854775808 < c.first) (h2:c.first <= 9223372036854775807) (h3:c.streams <= 1099511627776):FunOK Tryz.prog 106 [c.hv] zac (newR c).hv zac:=by
 refine zch Tryz.func106 (zpb c h1 h2 h3) ?_
 conv=>whnf
 rfl
def wt (c:Chunk):Nat:=c.data.length+c.skips.length+1
def wts (l:List Chunk):Nat:=(l.map wt).sum
theorem yjm (a b:List Chunk):wts (a++b)=wts a+wts b:=by simp [wts]
theorem zko (c:Chunk) (b:List Chunk):wts (c :: b)=wt c+wts b:=by simp [wts]
end Rcv
end Go.HL
