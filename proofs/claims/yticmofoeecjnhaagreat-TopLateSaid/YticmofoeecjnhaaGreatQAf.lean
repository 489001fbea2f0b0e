/- Walks, contracts and laws of the law's functions: part 6. No condition. -/
import Derived.Test.YticmofoeecjnhaaGreatQAe
open Go.Proofs
set_option maxHeartbeats 32000000
set_option maxRecDepth 100000
set_option linter.unusedSimpArgs false
theorem yy45 {P:Prop} (h:P:=by
 dsimp only;cases Nat.beq (GM.bytes (g.out.take k)) 0 with
 | true=>rfl
 | false =>
  dsimp only [cond];cases Nat.ble g.win g.slow with
  | true=>rfl
  | false =>
   dsimp only [cond];cases Nat.ble g.win (g.par+GM.bytes (g.out.take k))<;>rfl):P:=h
theorem yy60 {P:Prop} (h:P:=by
 exact ⟨⟨a1.turns,a1.part,a1.ord,a1.mids,a1.ends⟩,a2,a3,a4,a5,a6,a7,a8,a9,a10,a11,a12,rfl,a14,a15,a16,a17,a18,a19,⟨a20.win,a20.slow,a20.par,a20.wait,a20.wait1,a20.errs,a20.al⟩,⟨a21.queue,a21.out⟩⟩):P:=h
theorem yy90 {P:Prop} (h:P:=by
 have e2:(zfd s ch (Sco.zex s.out s.cum ch s.paths.length)).forward=g.fwd:=by rw [hT.fwd,q5]
 rw [<- e2] at this ⊢;exact this):P:=h
theorem yy58 {P:Prop} (h:P:=by
 have h2:=r.lr.sr.todo
 constructor
 . intro e
   have:rest l.sender=[]:=by
    unfold rest zmc;rw [e];split<;>rfl
   rw [h1] at this;rw [h2,this];rfl
 . intro e
   rw [e] at h2;exact zqj r.lr.si r.lr.sr.qc zz61):P:=h
theorem yy24 {P:Prop} (h:P:=by
 have:=h.nmids;have hE:=r.qc.ends;have hml:(zgo s.mids (zmc s.config.turns s.queue)).length=s.mids.length:=by
  have gen:∀ (q:List zae) (m:List Int),(zgo m q).length=m.length:=by
   intro q
   induction q with
   | nil=>intro m;rfl
   | cons y q ih =>
    intro m;rw [zgo,ih];unfold zyw;split
    . exact zfv _ _ _
    . rfl
  exact gen _ _
 rw [hE] at hml;have hml:2=s.mids.length:=hml;omega):P:=h
namespace Go.HL
namespace Tp
open Ser Snd
section
variable {E:List Int} {N:Nat} {f T:Int} {P:Nat} {Cs:List CH} {s:zab} {g:GM}
theorem fold_zero:∀ {l:List Path} {n:Int},(∀ q∈l,q.zak=0)->-(2 ^ 40)<=n->n<=2 ^ 40->l.foldl (fun n a=>W (n+a.zak)) n=n
 | [],_,_,_,_=>rfl
 | q::l,n,h,h1,h2=>by
  rw [zy35,h q (by simp),Int.add_zero,zbg (by omega) (by omega)];exact fold_zero (fun x hx=>h x zz28) h1 h2
theorem yof:∀ {l:List Path} {k:Nat} {p:Path} {n:Int},l[k]?=some p->(∀ (i:Nat) q,i≠k->l[i]?=some q->q.zak=0)->-(2 ^ 30)<=n->n<=2 ^ 30->0<=p.zak->p.zak<=2 ^ 30->l.foldl (fun n a=>W (n+a.zak)) n=n+p.zak
 | q::l,0,p,n,h,ho,h1,h2,h3,h4=>by
  have:q=p:=by simpa using h
  subst this;rw [zy35,zbg (by omega) (by omega)];refine fold_zero (fun x hx=>?_) zz0 zz0;obtain ⟨i,hi⟩:=zy33 hx;exact ho (i+1) x zz0 (by simpa using hi)
 | q::l,k+1,p,n,h,ho,h1,h2,h3,h4=>by
  rw [zy35,ho 0 q (by omega) rfl,Int.add_zero,zbg (by omega) (by omega)];exact yof zz74 (fun i x hi hx=>ho (i+1) x zz0 zz48) h1 h2 h3 h4
theorem SR.zak (h:SI N s) (r:SR E f T P Cs s g):Snd.zak s=(GM.zak g.out:Int):=by
 obtain ⟨h1,h2⟩:=r.fl h;have:=yof (n:=0) r.path (fun i q hi hq=>(r.other i q hi hq).1) zz5 zz5 (by show (0:Int)<=(GM.zak g.out:Nat);omega) (by show ((GM.zak g.out:Nat):Int)<=2 ^ 30;omega);unfold Snd.zak;rw [this];show (0:Int)+((GM.zak g.out:Nat):Int)=_;omega
theorem zwh (win:Nat):∀ (l:List Nat) (len k f:Nat),GM.fresh win len (k+1) f l=GM.fresh win (len+1) k f l
 | [],_,_,_=>rfl
 | n::l,len,k,f=>by
  rw [GM.zrp,GM.zrp,zwh win l len (k+1) (f+n),show len+(k+1)=len+1+k by omega]
theorem xdf {p:zfs} {em:List (Nat×Nat)} (h:SI N p.s) (r:PR E f T P Cs p g em) {n:Nat} {t:List Nat} (ht:g.todo=n::t) (c1:GM.zak g.out<g.win/\g.out.length<60) (_:GM.zak g.out=0\/GM.zak g.out+n<=280) :
 ∃ q,next p=some q/\PR E f T P Cs q {g with todo:=t,out:=g.out++[(n,1)]} (em++[(2*(g.a+g.out.length),9+n)]):=by
 have hsr:=r.sr;obtain ⟨hfl,hol⟩:=hsr.fl h;have hlen:=hsr.len;have htd:=hsr.todo;rw [ht] at htd;cases hC:Cs.drop (g.a+g.out.length) with
 | nil=>rw [hC] at htd;cases htd
 | cons x rs =>
 rw [hC] at htd;obtain ⟨hn,htt⟩:=List.cons.inj htd;have hrest:=hsr.rest;rw [hC] at hrest;have hxm:x∈Cs:=zy70 (by rw [hC];simp);have hxf:=hsr.zeh x hxm;have hCx:Cs[g.a+g.out.length]?=some x:=by
  have:=congrArg (fun z=>z[0]?) hC
  simpa using this
 have hCd:Cs.drop (g.a+g.out.length+1)=rs:=by
  rw [zy31 (Gh.zci hCx)] at hC;exact (List.cons.inj hC).2
 obtain ⟨k,m,e1,e2,e3,e4,e5,e6⟩:=yxw h hsr.qc hrest hxf.mid;have hd4:=hxf.d4;have hd1:=hxf.d1;have hch:=hsr.choose h;have hop:=zsc hsr;have hflight:=hsr.zak h;have hmm:=zy5 e2;have hq:=hsr.due.queue m hmm;have hp:=hsr.path;have hnx:=h.next;have hcm:=hsr.cum;obtain ⟨ps,po⟩:=p;dsimp only at *
 have zdk:next ⟨ps,po⟩=some (ylq ⟨ps,po⟩ k m (many ps m)):=by
  unfold next;dsimp only;rw [hch,hop,zy12 c1.1,zy0 (by rintro (h1 | h1 | h1);omega;cases h1;omega),e1,show ((k:Nat):Int).toNat=k by omega,e2];dsimp only;rw [hflight,e3,zbg (by omega) (by omega),zy0 (by have:=hsr.room;omega)]
 refine ⟨_,zdk,?_⟩;rw [zjd,hch];have hcd:(cut ps m (many ps m)).data.length=n:=by rw [e4];exact hn.symm
 have hout:fly ⟨zrj ps k m,po⟩ ps.out.length g.act=⟨{zrj ps k m with out:=ps.out++[zuj ⟨ps.next,m.id,0,0,0,0,m.came,m.message.life,m.message.tries,cut ps m (many ps m)⟩ g.act],paths:=setAt ps.paths g.act fun a=>{a with zak:=W (a.zak+n)}},setAt po g.act (·++[cut ps m (many ps m)])⟩:=by
  unfold fly;have:(zrj ps k m).out[ps.out.length]?=some ⟨ps.next,m.id,0,0,0,0,m.came,m.message.life,m.message.tries,cut ps m (many ps m)⟩:=by
   show (ps.out++[_])[ps.out.length]?=_;simp
  rw [this];dsimp only;rw [hcd];congr 2;show (ps.out++[_]).set ps.out.length _=_;rw [zy172 _ _ (zy19 _),zy91];rfl
 rw [hout];have hfa:GM.zak (g.out++[(n,1)])=GM.zak g.out+n:=by
  rw [GM.zzr,GM.zdv,zy1 rfl];rfl
 have hpath:({pathOf ps.clock g with zak:=W ((pathOf ps.clock g).zak+n)}:Path)=pathOf ps.clock {g with todo:=t,out:=g.out++[(n,1)]}:=by
  unfold pathOf;dsimp only;rw [hfa,zbg (by omega) (by omega)];rfl
 have hqueue:∀ z∈(zrj ps k m).queue,∃ y∈ps.queue,z.message=y.message/\z.came=y.came:=by
  intro z hz;have hz:z∈(if decide (m.sent+many ps m=m.message.data.length) then ps.queue.eraseIdx k else ps.queue.set k {m with mid:=zbt ps m,sent:=m.sent+many ps m,parts:=W (m.parts+1)}):=hz;split at hz
  . exact ⟨z,zy65 hz,rfl,rfl⟩
  . rcases zy45 hz with hz | rfl
    . exact ⟨z,hz,rfl,rfl⟩
    . exact ⟨m,hmm,rfl,rfl⟩
 refine ⟨⟨⟨e6.turns,e6.part,e6.ord,e6.mids,e6.ends⟩,hsr.pk,by show (setAt _ _ _).length=P;rw [zfv];exact hsr.np,hsr.cum,by show (ps.out++[_]).length=(g.out++[_]).length;rw [zy4,zy4,hlen];rfl,fun j x' y' hx' hy'=>?_,?_,?_,hsr.zeh,?_,fun j q hj hq2=>?_,hsr.errs,hsr.fwd,hsr.room,hsr.clk0,hsr.clk,hsr.small,hsr.f0,hsr.f1,⟨hsr.lim.win,hsr.lim.slow,hsr.lim.par,hsr.lim.wait,hsr.lim.wait1,hsr.lim.errs,hsr.lim.al⟩,⟨fun z hz=>?_,fun z hz=>?_⟩⟩,?_,fun y hy=>?_⟩
 . have hx':(ps.out++[_])[j]?=some x':=hx'
   have hy':(g.out++[(n,1)])[j]?=some y':=hy';rcases Gh.zei hx' with hx' | ⟨hj1,rfl⟩
   . have:=Gh.zci hx'
     rw [zy26 (by omega)] at hy';exact hsr.out j x' y' hx' hy'
   . rcases Gh.zei hy' with hy' | ⟨hj2,rfl⟩
     . have:=Gh.zci hy';omega
     . refine ⟨rfl,.inl rfl,fun _=>⟨x,by rw [hj2];exact hCx,?_,hn⟩,fun h4=>(by cases h4),fun _=>rfl⟩
       show cut ps m (many ps m)=x.mk' f (g.a+j);rw [e4];unfold CH.mk';rw [show ps.next=f+((g.a+j:Nat):Int) by omega]
 . show rest (zrj ps k m)=_
   rw [e5,<- hCd];congr 1;show _=g.a+(g.out++[(n,1)]).length;rw [zy4];rfl
 . show t=_
   rw [htt,<- hCd];congr 2;show _=g.a+(g.out++[(n,1)]).length;rw [zy4];rfl
 . show (setAt ps.paths g.act _)[g.act]?=_
   rw [zky hp,zy17 (Gh.zci hp),hpath];rfl
 . have hq2:(setAt ps.paths g.act _)[j]?=some q:=hq2
   rw [zky hp,zy29 (fun e=>hj e.symm)] at hq2;exact hsr.other j q hj hq2
 . obtain ⟨y,y1,y2,y3⟩:=hqueue z hz
   rw [y2,y3];exact hsr.due.queue y y1
 . have hz:z∈ps.out++[_]:=hz
   rcases zy10.1 hz with hz | hz
   . exact hsr.due.out z hz
   . rw [zy7] at hz
     subst hz;exact .inr hq
 . show setAt po g.act (·++[cut ps m (many ps m)])=_
   have hpo:po=xga P g.act (chs f Cs em):=r.po;rw [hpo,ydi hsr.act];congr 1;unfold chs;rw [zy40,zy27,zy87,yfa hCx,e4];unfold CH.mk';rw [show ps.next=f+((g.a+g.out.length:Nat):Int) by omega]
 . show zog Cs y/\(y.1 % 2=0->y.1 / 2<g.a+(g.out++[(n,1)]).length)
   rw [zy4];rcases zy10.1 hy with hy | hy
   . have:=r.em y hy
     exact ⟨this.1,fun h=>by have:=this.2 h;show _<g.a+(g.out.length+1);omega⟩
   . rw [zy7] at hy
     subst hy;refine ⟨.inr ⟨by omega,x,?_,hxf,by rw [hn]⟩,fun _=>by dsimp only [List.length_singleton];omega⟩;rw [show 2*(g.a+g.out.length) / 2=g.a+g.out.length by omega];exact hCx
theorem yhk {p:zfs} {em:List (Nat×Nat)} (h:SI N p.s) (r:PR E f T P Cs p g em) (hc:g.todo=[]\/¬ (GM.zak g.out<g.win/\g.out.length<60)):next p=none:=by
 have hsr:=r.sr;have hch:=hsr.choose h;have hop:=zsc hsr;have hlen:=hsr.len;unfold next;rw [hch,hop];rcases hc with hc | hc
 . have htd:=hsr.todo
   rw [hc] at htd;have hr:=hsr.rest;rw [zy150.1 htd.symm] at hr;rw [zy1 (.inl (xjf (zqj h hsr.qc hr)))]
 . by_cases c1:GM.zak g.out<g.win
   . rw [zy1 (.inr (.inr (by omega)))]
   . rw [zy1 (.inr (.inl (zy20 c1)))]
theorem yhm:∀ (fuel:Nat) {p:zfs} {g:GM} {em:List (Nat×Nat)},SI N p.s->PR E f T P Cs p g em->61<=fuel+g.out.length->(GM.yne g).2.2=true ->
 SI N (zga fuel p).s/\PR E f T P Cs (zga fuel p) (GM.yuk g).1 (em++(GM.yuk g).2)
 | fuel,p,g,em,h,r,hf,hok=>by
  cases ht:g.todo with
  | nil =>
   have hn:=yhk h r (.inl ht);have e0:zga fuel p=p:=by cases fuel with | zero=>rfl | succ k=>rw [zga,hn]
   have e1:GM.yne g=(0,GM.zak g.out,true):=by unfold GM.yne;rw [ht];rfl
   rw [e0];unfold GM.yuk;rw [e1,ht];refine ⟨h,?_⟩;show PR E f T P Cs p {g with todo:=[],out:=g.out++[],ok:=g.ok&&true} (em++[]);rw [zy9,zy9];obtain ⟨r1,r2,r3⟩:=r;refine ⟨⟨r1.qc,r1.pk,r1.np,r1.cum,r1.len,r1.out,r1.rest,?_,r1.zeh,r1.path,r1.other,r1.errs,r1.fwd,r1.room,r1.clk0,r1.clk,r1.small,r1.f0,r1.f1,⟨r1.lim.win,r1.lim.slow,r1.lim.par,r1.lim.wait,r1.lim.wait1,r1.lim.errs,r1.lim.al⟩,r1.due⟩,r2,r3⟩;rw [<- r1.todo,ht]
  | cons n t =>
   have hcnt:GM.yne g=GM.fresh g.win g.out.length 0 (GM.zak g.out) (n::t):=by unfold GM.yne;rw [ht]
   rw [GM.zrp,zy95] at hcnt;by_cases c1:GM.zak g.out<g.win/\g.out.length<60
   . rw [zy1 c1] at hcnt
     by_cases c2:GM.zak g.out=0\/GM.zak g.out+n<=280
     . rw [zy1 c2] at hcnt
       obtain ⟨q,q1,q2⟩:=xdf h r ht c1 c2;obtain ⟨fu,rfl⟩:∃ k,fuel=k+1:=⟨fuel-1,by omega⟩
       have hfa:GM.zak (g.out++[(n,1)])=GM.zak g.out+n:=by
        rw [GM.zzr,GM.zdv,zy1 rfl];rfl
       have hcnt2:GM.yne {g with todo:=t,out:=g.out++[(n,1)]}=GM.fresh g.win g.out.length 1 (GM.zak g.out+n) t:=by
        unfold GM.yne;dsimp only;rw [hfa,zy4,zwh];rfl
       have ih:=yhm fu (yde h q1) q2 (by dsimp only;rw [zy4,zy48];omega) (by rw [hcnt2];rw [hcnt] at hok;exact hok);rw [zga,q1];dsimp only;refine ⟨ih.1,?_⟩;have ih:=ih.2;unfold GM.yuk at ih ⊢;rw [hcnt2] at ih;rw [hcnt,ht];dsimp only at ih ⊢;rw [zy116,zy149,zy27];rw [zy24,zy24,zy4,zy48] at ih;exact ih
     . rw [zy0 c2] at hcnt
       rw [hcnt] at hok;cases hok
   . have hn:=yhk h r (.inr c1)
     have e0:zga fuel p=p:=by cases fuel with | zero=>rfl | succ k=>rw [zga,hn]
     rw [zy0 c1] at hcnt;rw [e0];unfold GM.yuk;rw [hcnt];refine ⟨h,?_⟩;show PR E f T P Cs p {g with todo:=g.todo,out:=g.out++[],ok:=g.ok&&true} (em++[]);rw [zy9,zy9];obtain ⟨r1,r2,r3⟩:=r;exact ⟨⟨r1.qc,r1.pk,r1.np,r1.cum,r1.len,r1.out,r1.rest,r1.todo,r1.zeh,r1.path,r1.other,r1.errs,r1.fwd,r1.room,r1.clk0,r1.clk,r1.small,r1.f0,r1.f1,⟨r1.lim.win,r1.lim.slow,r1.lim.par,r1.lim.wait,r1.lim.wait1,r1.lim.errs,r1.lim.al⟩,r1.due⟩,r2,r3⟩
theorem xet (h:SI N s) (r:SR E f T P Cs s g):SR E f T P Cs (yjw s) (GM.yjv g):=by
 have hpt:=r.zeg h;have hp:=r.path;have hal:zgv s (Sco.zeg s.out s.cum).1 (pathOf s.clock g)=pathOf s.clock (GM.yjv g):=by
  rw [hpt];unfold zgv pathOf GM.yjv;dsimp only;have hw:=r.lim.wait1;have hc:=r.clk0;by_cases c1:GM.zak g.out=0
  . rw [c1,zy0 (by rintro ⟨h1,-⟩;omega),GM.zgf rfl]
    by_cases c2:GM.lead g.out=0
    . rw [zy1 ⟨rfl,by rw [c2];omega⟩,GM.zgf c2]
      show _=(⟨_,_,_,_,_,if (0:Nat)=0 then 0 else _,_⟩:Path);rw [zy1 rfl]
    . rw [zy0 (by rintro ⟨-,h2⟩;omega),GM.zie c2];rfl
  . rw [GM.zie c1]
    by_cases c2:g.al=0
    . rw [zy1 ⟨by omega,by rw [zy1 c2]⟩,GM.zgf c2]
      show (⟨_,_,_,_,_,W (s.clock+g.wait),_⟩:Path)=⟨_,_,_,_,_,if g.wait=0 then 0 else s.clock+g.wait,_⟩;rw [r.wait,zy0 (by omega)]
    . rw [zy0 (by rintro ⟨-,h2⟩;rw [zy0 c2] at h2;omega),zy0 (by rintro ⟨h1,-⟩;omega),GM.zie c2];rfl
 refine ⟨⟨r.qc.turns,r.qc.part,r.qc.ord,r.qc.mids,r.qc.ends⟩,r.pk,by show (List.map _ _).length=P;rw [zy3];exact r.np,r.cum,r.len,r.out,r.rest,r.todo,r.zeh,?_,fun i q hi hq=>?_,r.errs,r.fwd,r.room,r.clk0,r.clk,r.small,r.f0,r.f1,⟨r.lim.win,r.lim.slow,r.lim.par,r.lim.wait,r.lim.wait1,r.lim.errs,?_⟩,⟨r.due.queue,r.due.out⟩⟩
 . show (s.paths.map _)[g.act]?=_
   rw [zy13,hp];show some (zgv s _ (pathOf s.clock g))=_;rw [hal];rfl
 . have hq:(s.paths.map (zgv s (Sco.zeg s.out s.cum).1))[i]?=some q:=hq
   rw [zy13] at hq;cases hz:s.paths[i]? with
   | none=>rw [hz] at hq;cases hq
   | some z =>
    rw [hz] at hq;have hq:zgv s (Sco.zeg s.out s.cum).1 z=q:=by simpa using hq
    obtain ⟨z1,z2,z3,z4⟩:=r.other i z hi hz;have:zgv s (Sco.zeg s.out s.cum).1 z=z:=by
     unfold zgv;rw [zy0 (by rintro ⟨h1,-⟩;omega)];split
     . obtain ⟨a,b,c,d,e,g',i'⟩:=z
       dsimp only at z2;subst z2;rfl
     . rfl
    rw [<- hq,this];exact ⟨z1,z2,z3,z4⟩
 . unfold GM.yjv
   have:=r.lim.wait;have:=r.lim.al;dsimp only;cases Nat.beq (GM.zak g.out) 0<;>cases Nat.beq (GM.lead g.out) 0<;>cases Nat.beq g.al 0<;>(dsimp only [cond];omega)
theorem ztm (most:Int) (k:Nat):∀ n:Nat,zbw most k (List.replicate n [])=[]
 | 0=>rfl
 | n+1=>by
  rw [zy90,zbw,ztm most (k+1) n];rfl
theorem ztn {l:List Chunk}:∀ (P act k:Nat),act<P->zbw 60 k ((List.replicate P []).set act l)=zgu 60 ((k+act:Nat):Int) l.length l
 | 0,act,k,h=>by omega
 | P+1,0,k,h=>by
  rw [zy90,zy134,zbw,ztm,zy9];rfl
 | P+1,act+1,k,h=>by
  rw [zy90,zy121,zbw,ztn P act (k+1) (by omega),show k+1+act=k+(act+1) by omega];rfl
theorem xec (h:SI N s) (r:SR E f T P Cs s g) (hT:s.clock<=T) (hok:(GM.zfc g).ok=true) :
 SR E f T P Cs (zfc s).1 (GM.zfc g)/\zzb (xpu f Cs g.act) (zfc s).2 (GM.pack 0 [] (GM.emG g))/\∀ y∈GM.emG g,zog Cs y/\(y.1 % 2=0->y.1 / 2<(GM.zfc g).a+(GM.zfc g).out.length):=by
 obtain ⟨ok1,ok2,ok3⟩:=GM.yly hok;have h0:SI N (expire s):=(zmi h).1;have hex:=r.expire hT;have r0:PR E f T P Cs ⟨s,List.replicate s.paths.length []⟩ g []:=by
  refine ⟨r,?_,fun y hy=>by cases hy⟩;show List.replicate s.paths.length []=xga P g.act [];unfold xga;rw [r.np];apply zy75;intro i;by_cases e:g.act=i
  . subst e;rw [zy17 (by simpa using r.act),zy73,zy1 r.act]
  . rw [zy29 e]
 have r1:=yks h r0;have h1:SI N (forward ⟨s,List.replicate s.paths.length []⟩).s:=znl h;have r2:=yrk h1 r1;have h2:=zue h1;obtain ⟨h3,r3⟩:=yhm 61 h2 r2 zz0 ok2;have r4:=xet h3 r3.sr;have zcv:(GM.yjv (GM.yuk (GM.ziv (GM.zio g).1).1).1).act=g.act:=by
  show (GM.zio g).1.act=g.act;unfold GM.zio;cases g.fwd&&!Nat.beq (GM.lead g.out) 0<;>rfl
 have hact2:(GM.yuk (GM.ziv (GM.zio g).1).1).1.act=g.act:=zcv;have hpp:zho s=zga 61 (again (forward ⟨s,List.replicate s.paths.length []⟩)):=by unfold zho;rw [hex]
 refine ⟨?_,?_,fun y hy=>?_⟩
 . show SR E f T P Cs (yjw (zho s).s) (GM.zfc g)
   rw [hpp];obtain ⟨a1,a2,a3,a4,a5,a6,a7,a8,a9,a10,a11,a12,a13,a14,a15,a16,a17,a18,a19,⟨l1,l2,l3,l4,l5,l6,l7⟩,a21⟩:=r4;exact ⟨a1,a2,a3,a4,a5,a6,a7,a8,a9,a10,a11,a12,a13,a14,a15,a16,a17,a18,a19,⟨l1,l2,l3,l4,l5,l6,l7⟩,a21⟩
 . show zzb _ (zbw s.config.packet 0 (zho s).out) _
   rw [hpp,r3.po,r.pk,hact2];unfold xga;rw [ztn P g.act 0 r.act];rw [show ((0+g.act:Nat):Int)=(g.act:Int) by omega];have hlen:(chs f Cs ((GM.zio g).2++(GM.ziv (GM.zio g).1).2++(GM.yuk (GM.ziv (GM.zio g).1).1).2)).length=(GM.emG g).length:=by unfold chs;rw [zy3];rfl
   rw [hlen];exact yhy _ (GM.emG g) (zy19 _) fun y hy=>(r3.em y hy).1
 . exact r3.em y hy
end
end Tp
namespace Tp
open Ser Snd
section
variable {E:List Int} {N:Nat} {f T:Int} {P:Nat} {Cs:List CH} {s:zab} {g:GM}
theorem xfh {act:Nat}:∀ (l:List zbr) (gl:List (Nat×Nat)) (k:Nat),l.length=gl.length->(∀ (j:Nat) x y,l[j]?=some x->gl[j]?=some y->xpt f Cs act (k+j) x y)->Sco.fl act l=GM.zak gl/\∀ i:Nat,i≠act->Sco.fl i l=0
 | [],[],_,_,_=>⟨rfl,fun _ _=>rfl⟩
 | x::l,y::gl,k,hl,h=>by
  have h0:=h 0 x y rfl rfl;obtain ⟨i1,i2⟩:=xfh l gl (k+1) zz53 fun j x' y' hx hy=>by
   have:=h (j+1) x' y' zz48 (by simpa using hy);rw [show k+1+j=k+(j+1) by omega];exact this
  have e:∀ p:Int,Sco.fl p (x::l)=(if x.state=1/\x.path=p then x.chunk.data.length else 0)+Sco.fl p l:=fun p=>by simp [Sco.fl]
  rw [e,GM.zdv,i1];refine ⟨?_,fun i hi=>?_⟩
  . by_cases c:y.2=1
    . obtain ⟨z,z1,z2,z3⟩:=h0.ch zz0
      rw [zy1 ⟨by rw [h0.st,c];rfl,h0.path (.inl c)⟩,zy1 c,z2,z3];rfl
    . rw [zy0 (by rintro ⟨h1,-⟩;rw [h0.st] at h1;omega),zy0 c]
  . rw [e,i2 i hi,zy0]
    rintro ⟨h1,h2⟩;rw [h0.st] at h1;rw [h0.path (.inl (by omega))] at h2;omega
 | [],_::_,_,hl,_=>by cases hl
 | _::_,[],_,hl,_=>by cases hl
theorem ync:∀ {l:List (Nat×Nat)},(∀ y∈l,y.2≠4->y.1<=4)->GM.bytes l<=4*l.length
 | [],_=>zy19 _
 | x::l,h=>by
  have:=ync (l:=l) fun y hy=>h y zz40
  have hx:=h x zz3;rw [GM.zzg,zy8];split
  . omega
  . rename_i c;have:=hx c;omega
theorem ynf {c:Chunk} {n:Int} {act:Nat}:∀ (l:List zbr) (gl:List (Nat×Nat)) (k:Nat) (z:List Int),l.length=gl.length->(∀ (j:Nat) x y,l[j]?=some x->gl[j]?=some y->xpt f Cs act (k+j) x y) ->
 (∀ x∈l,Sco.here c n x=true)->(act=0\/∀ y∈gl,y.2≠3)->act<z.length->0<=z[act]?.getD 0->z[act]?.getD 0+GM.bytes gl<=2 ^ 40 ->
 (l.foldl (Sco.zjh c n) z)[act]?.getD 0=z[act]?.getD 0+GM.bytes gl/\∀ i:Nat,i≠act->(l.foldl (Sco.zjh c n) z)[i]?=z[i]?
 | [],[],_,z,_,_,_,_,_,_,_=>⟨by show z[act]?.getD 0=z[act]?.getD 0+((0:Nat):Int);omega,fun _ _=>rfl⟩
 | x::l,y::gl,k,z,hl,h,hh,ha,hz,h1,h2=>by
  have h0:=h 0 x y rfl rfl;have hx:=hh x zz3;rw [GM.zzg] at h2 ⊢;rw [zy35];have hz2:(Sco.zjh c n z x).length=z.length:=by unfold Sco.zjh Sco.ybl;split<;>simp
  have hv:(Sco.zjh c n z x)[act]?.getD 0=z[act]?.getD 0+((if y.2=4 then 0 else y.1:Nat):Int)/\∀ i:Nat,i≠act->(Sco.zjh c n z x)[i]?=z[i]?:=by
   by_cases c4:y.2=4
   . have:Sco.comes c n x=false:=by unfold Sco.comes;rw [h0.st,c4];simp
     unfold Sco.zjh;rw [this,zy1 c4];exact ⟨by show z[act]?.getD 0=z[act]?.getD 0+((0:Nat):Int);omega,fun _ _=>rfl⟩
   . have hst:=h0.st3
     have:Sco.comes c n x=true:=by
      unfold Sco.comes;rw [hx,h0.st];rcases (show y.2=1\/y.2=3 by omega) with e | e<;>rw [e]<;>rfl
     have hp:x.path=act:=h0.path (by
      rcases (show y.2=1\/y.2=3 by omega) with e | e
      . exact .inl e
      . exact .inr ⟨ha.resolve_right fun hn=>hn y zz3 e,e⟩)
     obtain ⟨w,w1,w2,w3⟩:=h0.ch c4;have hd:x.chunk.data.length=y.1:=by rw [w2,w3];rfl
     rw [zy0 c4] at h2 ⊢;unfold Sco.zjh;rw [this,zy1 rfl];unfold Sco.ybl;rw [hp,hd,show ((act:Nat):Int).toNat=act by omega,zbg (by omega) (by omega)];refine ⟨by rw [zy17 hz];rfl,fun i hi=>by rw [zy29 (fun e=>hi e.symm)]⟩
  obtain ⟨i1,i2⟩:=ynf l gl (k+1) (Sco.zjh c n z x) zz53 (fun j x' y' hx hy=>by
   have:=h (j+1) x' y' zz48 (by simpa using hy);rw [show k+1+j=k+(j+1) by omega];exact this) (fun x' hx'=>hh x' (by simp [hx'])) (ha.imp id fun h y' hy'=>h y' (by simp [hy'])) (by rw [hz2];exact hz) (by rw [hv.1];omega) (by rw [hv.1];push_cast at h2 ⊢;omega)
  refine ⟨by rw [i1,hv.1];push_cast;omega,fun i hi=>by rw [i2 i hi,hv.2 i hi]⟩
 | [],_::_,_,_,hl,_,_,_,_,_,_=>by cases hl
 | _::_,[],_,_,hl,_,_,_,_,_,_=>by cases hl
theorem zzk {c:Chunk} {n:Int}:∀ (l:List zbr) (z:List Int),(∀ x∈l,Sco.comes c n x=false)->l.foldl (Sco.zjh c n) z=z
 | [],_,_=>rfl
 | x::l,z,h=>by
  rw [zy35,show Sco.zjh c n z x=z by unfold Sco.zjh;rw [h x (by simp)];rfl];exact zzk l z fun y hy=>h y zz40
theorem ywn {c:Chunk} {n:Int}:∀ (l:List zbr) (z:Int),z<=n->(∀ x∈l,Sco.comes c n x=true->x.number<=n)->l.foldl (Sco.zot c n) z<=n
 | [],_,h,_=>h
 | x::l,z,h,hh=>by
  rw [zy35];refine ywn l _ ?_ fun y hy=>hh y zz40
  unfold Sco.zot;split
  . rename_i e;exact hh x zz3 e
  . exact h
theorem xgs {k:Int} {b:Nat} (hw:g.win<=100000) (hp:g.par<=100000) (hb:b<=200000):(if (b:Int)>0 then Paths.zyq (pathOf k g) b 4 true else pathOf k g)=pathOf k (GM.zyp g b):=by
 by_cases c1:b=0
 . subst c1
   rw [zy0 (by decide)];rfl
 rw [zy1 (by omega)];unfold GM.zyp Paths.zyq;dsimp only;rw [GM.zie c1,zy0 (by omega)];by_cases c2:g.win<=g.slow
 . rw [zy1 (show (pathOf k g).window<=(pathOf k g).slow by show (g.win:Int)<=g.slow;omega),show Nat.ble g.win g.slow=true from zy69 c2]
   unfold pathOf;dsimp only [cond];rw [zbg (by omega) (by omega),show (g.win:Int)+min (b:Int) 4=((g.win+min b 4:Nat):Int) by omega];rfl
 . rw [zy0 (show ¬ (pathOf k g).window<=(pathOf k g).slow by show ¬ (g.win:Int)<=g.slow;omega),show Nat.ble g.win g.slow=false by cases hb:Nat.ble g.win g.slow with | false=>rfl | true=>exact absurd (zy15 hb) c2]
   have hW:W ((pathOf k g).gathered+b)=(g.par:Int)+b:=zbg (by show (-9223372036854775808:Int)<=(g.par:Int)+b;omega) (by show (g.par:Int)+b<=9223372036854775807;omega);rw [hW];by_cases c3:g.win<=g.par+b
   . rw [zy1 (show (g.par:Int)+b>=(pathOf k g).window by show (g.par:Int)+b>=g.win;omega),show Nat.ble g.win (g.par+b)=true from zy69 c3]
     unfold pathOf;dsimp only [cond];rw [zbg (by omega) (by omega),zbg (by omega) (by omega),show (g.par:Int)+b-g.win=((g.par+b-g.win:Nat):Int) by omega,show (g.win:Int)+4=((g.win+4:Nat):Int) by omega];rfl
   . rw [zy0 (show ¬ (g.par:Int)+b>=(pathOf k g).window by show ¬ (g.par:Int)+b>=g.win;omega),show Nat.ble g.win (g.par+b)=false by cases hb:Nat.ble g.win (g.par+b) with | false=>rfl | true=>exact absurd (zy15 hb) c3]
     unfold pathOf;dsimp only [cond];rw [show (g.par:Int)+b=((g.par+b:Nat):Int) by omega];rfl
theorem xgr {b:Nat} (l:Lim g) (hw:g.win<=100000) (hp:g.par<=100000) (hb:b<=200000):Lim (GM.zyp g b):=by
 have l1:=l.slow;have l2:=l.wait;have l3:=l.wait1;have l4:=l.al;have l5:=l.errs;unfold GM.zyp;cases Nat.beq b 0 with
 | true=>exact ⟨by show g.win<=_;omega,l1,by show g.par<=_;omega,l2,l3,l5,l4⟩
 | false =>
  dsimp only [cond];cases Nat.ble g.win g.slow with
  | true=>exact ⟨by show g.win+min b 4<=_;omega,l1,by show g.par<=_;omega,show 3<=24 by decide,show 1<=3 by decide,show 0<=2000 by decide,show 0<=24 by decide⟩
  | false =>
   dsimp only [cond];cases Nat.ble g.win (g.par+b) with
   | true=>exact ⟨by show g.win+4<=_;omega,l1,by show g.par+b-g.win<=_;omega,show 3<=24 by decide,show 1<=3 by decide,show 0<=2000 by decide,show 0<=24 by decide⟩
   | false=>exact ⟨by show g.win<=_;omega,l1,by show g.par+b<=_;omega,show 3<=24 by decide,show 1<=3 by decide,show 0<=2000 by decide,show 0<=24 by decide⟩
theorem zvc (g:GM) (b:Nat):(GM.zyp g b).ok=g.ok/\(GM.zyp g b).out=g.out/\(GM.zyp g b).a=g.a/\(GM.zyp g b).todo=g.todo/\(GM.zyp g b).fwd=g.fwd/\(GM.zyp g b).act=g.act/\(GM.zyp g b).R=g.R/\(GM.zyp g b).way=g.way/\((GM.zyp g b).errs=g.errs\/(GM.zyp g b).errs=0):=by
 unfold GM.zyp;cases Nat.beq b 0 with
 | true=>exact ⟨rfl,rfl,rfl,rfl,rfl,rfl,rfl,rfl,.inl rfl⟩
 | false =>
  dsimp only [cond];cases Nat.ble g.win g.slow with
  | true=>exact ⟨rfl,rfl,rfl,rfl,rfl,rfl,rfl,rfl,.inr rfl⟩
  | false =>
   dsimp only [cond];cases Nat.ble g.win (g.par+b) with
   | true=>exact ⟨rfl,rfl,rfl,rfl,rfl,rfl,rfl,rfl,.inr rfl⟩
   | false=>exact ⟨rfl,rfl,rfl,rfl,rfl,rfl,rfl,rfl,.inr rfl⟩
theorem ykz {c:Nat} (h:(GM.zjo g c).ok=true):g.ok=true/\g.a<=c/\c-g.a<=g.out.length/\(g.act=0\/∀ y∈g.out.take (c-g.a),y.2≠3)/\g.win<=100000/\g.par<=100000:=by
 unfold GM.zjo at h;rw [(zvc _ _).1] at h;have h:(((((g.ok&&Nat.ble g.a c)&&Nat.ble (c-g.a) g.out.length)&&(Nat.beq g.act 0||(g.out.take (c-g.a)).all fun x=>!Nat.beq x.2 3))&&Nat.ble g.win 100000)&&Nat.ble g.par 100000)=true:=h;refine ⟨GM.zda (GM.zda (GM.zda (GM.zda (GM.zda h)))),zy15 (GM.zgy (GM.zda (GM.zda (GM.zda (GM.zda h))))),zy15 (GM.zgy (GM.zda (GM.zda (GM.zda h)))),?_,zy15 (GM.zgy (GM.zda h)),zy15 (GM.zgy h)⟩;have h2:=GM.zgy (GM.zda (GM.zda h));rw [zy74] at h2;refine h2.imp zy6 fun h3 y hy e=>?_
 have:=zy60.1 h3 y hy;rw [e] at this;cases this
theorem xce (h:SI N s) (hN:N<=500) (r:SR E f T P Cs s g) {ch:Chunk} {c:Nat} (h1:ch.kind=2) (h2:ch.tag=tag (f-1+c)) (h3:ch.zaq=[]) (h4:280<=ch.room) (hok:(GM.zjo g c).ok=true):SR E f T P Cs (zjo s ch) (GM.zjo g c):=by
 obtain ⟨-,o1,o2,o3,o4,o5⟩:=ykz hok;have hlen:=r.len;have hcum:=r.cum;have hf0:=r.f0;have hf1:=r.f1;have hw:=zca h.cfg;have hnx:=h.nextle;have hnx2:=h.next;have hmany:=h.many;have howe:=h.owes;have hcu:=h.cum;have hsm:s.out.length<=30510:=by
  have:=zxa hw.2.2.2.2.1 h.queue;omega
 obtain ⟨k,rfl⟩:∃ k,c=g.a+k:=⟨c-g.a,by omega⟩
 rw [show g.a+k-g.a=k by omega] at o2 o3;have hnear:zcw s.cum ch.tag=s.cum+k:=Rcv.zhd zz0 zz0 zz0 zz0 (by rw [h2];unfold tag;omega);have hkk:¬ (zcw s.cum ch.tag<s.cum\/zcw s.cum ch.tag>s.cum+s.out.length):=by rw [hnear];omega
 unfold zjo;rw [zy0 (by omega),zy0 hkk,zil];have hTsi:=zwl h hkk;have hfil:=zlh h.nums (show s.cum<=zcw s.cum ch.tag by omega);have hhere:∀ (j:Nat) x,s.out[j]?=some x->Sco.here ch (s.cum+k) x=decide (j<k):=by
  intro j x hx;have:=h.nums j x hx;unfold Sco.here;rw [h3];show (decide (x.number<=s.cum+k)||false)=_;rw [Bool.or_false,zy128];omega
 have hquiet:∀ x∈s.out.drop k,Sco.comes ch (s.cum+k) x=false:=by
  intro x hx;obtain ⟨j,hj⟩:=zy33 hx;rw [zy46] at hj;unfold Sco.comes;rw [hhere _ x hj,zy20 (by omega)];rfl
 have hhigh:Sco.zgi ch (s.cum+k) s.out<=s.cum+k+1:=by
  unfold Sco.zgi;have hz:∀ (l:List zbr) (z:Int),(∀ x∈l,Sco.comes ch (s.cum+k) x=false)->l.foldl (Sco.zot ch (s.cum+k)) z=z:=by
   intro l
   induction l with
   | nil=>intro z _;rfl
   | cons x l ih =>
    intro z hl;rw [zy35,show Sco.zot ch (s.cum+k) z x=z by unfold Sco.zot;rw [hl x (by simp)];rfl];exact ih z fun y hy=>hl y zz40
  by_cases e:s.cum+k<0
  . have e0:k=0:=by omega
    rw [hz s.out 0 (by subst e0;simpa using hquiet)];omega
  . refine Int.le_trans (ywn (n:=s.cum+k) _ 0 zz0 fun x hx hc=>?_) zz0
    obtain ⟨j,hj⟩:=zy33 hx;have:=h.nums j x hj;unfold Sco.comes at hc;rw [hhere j x hj] at hc;simp at hc;omega
 have hs1:(Sco.zex s.out s.cum ch s.paths.length).1=s.out.drop k:=by
  rw [Sco.zex,zy0 hkk];dsimp only;rw [Sco.left,hfil,zy94,hnear,show (s.cum+(k:Int)-s.cum).toNat=k by omega]
  conv=>rhs;rw [<- List.map_id (s.out.drop k)]
  refine zy89 fun x hx=>?_
  show Sco.age (Sco.zgi ch (s.cum+k) s.out) (Sco.zbf ch (s.cum+k) x)=x;rw [show Sco.zbf ch (s.cum+k) x=x by unfold Sco.zbf;rw [hquiet x hx];rfl];unfold Sco.age;rw [zy0];rintro ⟨-,e⟩;obtain ⟨j,hj⟩:=zy33 hx;rw [zy46] at hj;have:=h.nums _ x hj;omega
 have hs2:(Sco.zex s.out s.cum ch s.paths.length).2.1=s.cum+k:=by rw [Sco.zex,zy0 hkk];exact hnear
 have hs4:(Sco.zex s.out s.cum ch s.paths.length).2.2.2=[]:=by
  rw [Sco.zex,zy0 hkk];show Sco.lost (Sco.zgi ch (zcw s.cum ch.tag) s.out) (Sco.left ch (zcw s.cum ch.tag) s.out)=[];unfold Sco.lost;rw [zy150,zy97];intro x hx;unfold Sco.left at hx;obtain ⟨y,hy,rfl⟩:=zy23.1 hx;rw [hnear] at hy ⊢;have hyn:=(zy54.1 hy).2;have hn:(Sco.zbf ch (s.cum+k) y).number=y.number:=by unfold Sco.zbf;split<;>rfl
  simp at hyn;simp only [zy41];rintro ⟨-,e,-⟩;omega
 have hb:GM.bytes (g.out.take k)<=200000:=by
  have:=ync (l:=g.out.take k) fun y hy h4=>by
   obtain ⟨j,hj⟩:=zy33 (zy62 hy);obtain ⟨x,hx⟩:∃ x,s.out[j]?=some x:=⟨_,zy2 (by have:=Gh.zci hj;omega)⟩
   obtain ⟨c,c1,c2,c3⟩:=(r.out j x y hx hj).ch h4;have:=(r.zeh c (zy5 c1)).d4;omega
  rw [zy55] at this;omega
 have hs3:((Sco.zex s.out s.cum ch s.paths.length).2.2.1)[g.act]?.getD 0=GM.bytes (g.out.take k)/\∀ i:Nat,i≠g.act->((Sco.zex s.out s.cum ch s.paths.length).2.2.1)[i]?.getD 0=0:=by
  rw [Sco.zex,zy0 hkk];dsimp only;rw [hnear];unfold Sco.zta;have hn:(s.paths.length:Int).toNat=P:=by rw [r.np];omega
  rw [hn,<- zy28 k s.out,zy84,zzk _ _ hquiet];have zcv:=r.act;obtain ⟨i1,i2⟩:=ynf (f:=f) (Cs:=Cs) (c:=ch) (n:=s.cum+k) (act:=g.act) (s.out.take k) (g.out.take k) g.a (List.replicate P 0) (by rw [zy55,zy55,hlen]) (fun j x y hx hy=>by
   rw [zy53] at hx hy;split at hx
   . rename_i hj;rw [zy1 hj] at hy;exact r.out j x y hx hy
   . cases hx) (fun x hx=>by
     obtain ⟨j,hj⟩:=zy33 hx;rw [zy53] at hj;split at hj
     . rename_i hjk;rw [hhere j x hj,zy12 hjk]
     . cases hj) o3 (by simpa using zcv) (by rw [zy73,zy1 zcv];exact zy80 _) (by rw [zy73,zy1 zcv];show (0:Int)+_<=_;omega)
  refine ⟨?_,fun i hi=>?_⟩
  . rw [i1,zy73,zy1 zcv];show (0:Int)+_=_;omega
  . rw [i2 i hi,zy73];split<;>rfl
 have hsackT:zfd s ch (Sco.zex s.out s.cum ch s.paths.length)=zfa {s with out:=s.out.drop k,cum:=s.cum+k,room:=ch.room,paths:=zhk s.paths s.config.part (decide (s.cum+k>s.cum)) (Sco.zex s.out s.cum ch s.paths.length).2.2.1}:=by
  unfold zfd;rw [hs1,hs2]
 have hfl:=xfh (act:=g.act) (s.out.drop k) (g.out.drop k) (g.a+k) (by rw [zy37,zy37,hlen]) (fun j x y hx hy=>by
  rw [zy46] at hx hy;rw [show g.a+k+j=g.a+(k+j) by omega];exact r.out (k+j) x y hx hy)
 -- the sender before the rest
 have hg0:GM.zjo g (g.a+k)=GM.zyp (GM.zza g (g.a+k)) (GM.bytes (g.out.take k)):=by unfold GM.zjo;rw [show g.a+k-g.a=k by omega]
 have hg1:GM.zza g (g.a+k)={g with out:=g.out.drop k,a:=g.a+k,fwd:=bif Nat.beq k 0||Nat.beq (GM.lead (g.out.drop k)) 0 then g.fwd else true,ok:=(GM.zza g (g.a+k)).ok}:=by
  unfold GM.zza;rw [show g.a+k-g.a=k by omega]
 generalize hGG:GM.zyp {g with out:=g.out.drop k,a:=g.a+k} (GM.bytes (g.out.take k))=G;obtain ⟨q1,q2,q3,q4,q5,q6,q7,q8,q9⟩:=zvc {g with out:=g.out.drop k,a:=g.a+k} (GM.bytes (g.out.take k));rw [hGG] at q1 q2 q3 q4 q5 q6 q7 q8 q9;dsimp only at q1 q2 q3 q4 q5 q6 q7 q8 q9;have hT:SR E f T P Cs (zfd s ch (Sco.zex s.out s.cum ch s.paths.length)) G:=by
  have hqq:G.a+G.out.length=g.a+g.out.length:=by rw [q2,q3,zy37];omega
  rw [hsackT];refine ⟨⟨r.qc.turns,r.qc.part,r.qc.ord,r.qc.mids,r.qc.ends⟩,r.pk,?_,by rw [q3];show s.cum+(k:Int)=_;push_cast;omega,by rw [q2];show (s.out.drop k).length=_;rw [zy37,zy37,hlen],fun j x y hx hy=>?_,by rw [hqq];exact r.rest,by rw [hqq,q4];exact r.todo,r.zeh,?_,fun i q hi hq=>?_,fun hP=>by have:=r.errs hP;omega,by rw [q5];exact r.fwd,h4,r.clk0,r.clk,r.small,r.f0,r.f1,?_,⟨r.due.queue,fun z hz=>r.due.out z (zy70 hz)⟩⟩
  . show (List.mapIdx _ (zhk _ _ _ _)).length=P
    unfold zhk;rw [zy77,zy77];exact r.np
  . have hx:(s.out.drop k)[j]?=some x:=hx
    rw [q2] at hy;rw [zy46] at hx hy;rw [q3,q6,show g.a+k+j=g.a+(k+j) by omega];exact r.out (k+j) x y hx hy
  . rw [q6]
    show (List.mapIdx (fun i p=>flP (s.out.drop k) i p) (zhk s.paths _ _ _))[g.act]?=_;unfold zhk;rw [zy47,zy47,r.path];show some (flP (s.out.drop k) g.act (if _>(0:Int) then Paths.zyq (pathOf s.clock g) _ _ _ else pathOf s.clock g))=_;rw [hs3.1,r.qc.part];have hm:∀ b:Nat,b=GM.bytes (g.out.take k)->(if (b:Int)>0 then Paths.zyq (pathOf s.clock g) b 4 (decide (s.cum+k>s.cum)) else pathOf s.clock g)=pathOf s.clock (GM.zyp g b):=by
     intro b hbb;rw [<- xgs o4 o5 (by omega)];by_cases e:k=0
     . have:b=0:=by rw [hbb,e];rfl
       subst this;rw [zy0 (by decide),zy0 (by decide)]
     . rw [zy12 (by omega)]
    rw [hm _ rfl];congr 1;unfold flP;rw [hfl.1,<- hGG];show ({pathOf s.clock (GM.zyp g (GM.bytes (g.out.take k))) with zak:=(GM.zak (g.out.drop k):Int)}:Path)=_;unfold pathOf GM.zyp;exact yy45
  . have hq:(List.mapIdx (fun i p=>flP (s.out.drop k) i p) (zhk s.paths s.config.part (decide (s.cum+k>s.cum)) (Sco.zex s.out s.cum ch s.paths.length).2.2.1))[i]?=some q:=hq
    unfold zhk at hq;rw [zy47,zy47] at hq;rw [q6] at hi ⊢;cases hz:s.paths[i]? with
    | none=>rw [hz] at hq;cases hq
    | some z =>
     rw [hz] at hq;have hq:flP (s.out.drop k) i (if ((Sco.zex s.out s.cum ch s.paths.length).2.2.1)[i]?.getD 0>0 then Paths.zyq z (((Sco.zex s.out s.cum ch s.paths.length).2.2.1)[i]?.getD 0) s.config.part (decide (s.cum+k>s.cum)) else z)=q:=by simpa using hq
     rw [hs3.2 i hi,zy0 (by decide)] at hq;obtain ⟨z1,z2,z3,z4⟩:=r.other i z hi hz;have:flP (s.out.drop k) i z=z:=by
      unfold flP;rw [hfl.2 i hi,<- show z.zak=((0:Nat):Int) from z1]
     rw [<- hq,this];exact ⟨z1,z2,z3,z4⟩
  . rw [<- hGG]
    exact xgr ⟨r.lim.win,r.lim.slow,r.lim.par,r.lim.wait,r.lim.wait1,r.lim.errs,r.lim.al⟩ o4 o5 hb
 rw [hs4];show SR E f T P Cs (Snd.settle (zej _ (zfd s ch _))) _;have hpt:=hT.zeg hTsi;have hV:SR E f T P Cs (zej (decide ((Sco.zex s.out s.cum ch s.paths.length).2.1>s.cum)) (zfd s ch (Sco.zex s.out s.cum ch s.paths.length))) (GM.zjo g (g.a+k)):=by
  have hfwd:∀ (b:Bool) (o:Bool) (t:zab),SR E f T P Cs t G->SR E f T P Cs {t with forward:=b} {G with fwd:=b,ok:=o}:=by
   intro b o t ⟨a1,a2,a3,a4,a5,a6,a7,a8,a9,a10,a11,a12,a13,a14,a15,a16,a17,a18,a19,a20,a21⟩;exact yy60
  have hGH:GM.zjo g (g.a+k)={G with fwd:=bif Nat.beq k 0||Nat.beq (GM.lead (g.out.drop k)) 0 then g.fwd else true,ok:=(GM.zza g (g.a+k)).ok}:=by
   rw [hg0,hg1,<- hGG];unfold GM.zyp;exact yy45
  rw [hGH,hs2];unfold zej;rw [hpt];have hle:GM.lead G.out=GM.lead (g.out.drop k):=by rw [q2]
  by_cases e1:k=0
  . rw [zy0 (by rintro ⟨e,-⟩;rw [zy20 (by omega)] at e;cases e),GM.zgf e1]
    have:=hfwd g.fwd (GM.zza g (g.a+k)).ok _ hT;rw [show (bif true||Nat.beq (GM.lead (g.out.drop k)) 0 then g.fwd else true)=g.fwd from rfl];exact yy90
  . by_cases e3:GM.lead (g.out.drop k)=0
    . rw [zy0 (by rintro ⟨-,e⟩;dsimp only at e;omega),GM.zie e1,GM.zgf e3]
      have:=hfwd g.fwd (GM.zza g (g.a+k)).ok _ hT;rw [show (bif false||true then g.fwd else true)=g.fwd from rfl];exact yy90
    . rw [zy1 ⟨zy12 (by omega),by dsimp only;omega⟩,GM.zie e1,GM.zie e3]
      exact hfwd true (GM.zza g (g.a+k)).ok _ hT
 generalize zej (decide ((Sco.zex s.out s.cum ch s.paths.length).2.1>s.cum)) (zfd s ch (Sco.zex s.out s.cum ch s.paths.length))=u at hV;obtain ⟨a1,a2,a3,a4,a5,a6,a7,a8,a9,a10,a11,a12,a13,a14,a15,a16,a17,a18,a19,a20,a21⟩:=hV;exact ⟨⟨a1.turns,a1.part,a1.ord,a1.mids,a1.ends⟩,a2,a3,a4,a5,a6,a7,a8,a9,a10,a11,a12,a13,a14,a15,a16,a17,a18,a19,a20,⟨a21.queue,fun z hz=>(a21.out z hz).imp (Gh.zxr u (k:=z.id.toNat)) id⟩⟩
theorem zwu:∀ l:List (Nat×Nat),GM.zak (GM.zjb l)=0
 | []=>rfl
 | x::l=>by
  have ih:=zwu l;show GM.zak ((bif Nat.beq x.2 1 then (x.1,3) else x)::GM.zjb l)=0;rw [GM.zdv,ih];by_cases c:x.2=1
  . rw [GM.zgf c];rfl
  . rw [GM.zie c]
    show (if x.2=1 then x.1 else 0)+0=0;rw [zy0 c]
theorem xan {two:Bool} (h:(GM.zib two g).ok=true):g.ok=true:=by
 unfold GM.zib at h;split at h
 . exact h
 . cases hc:two&&Nat.beq g.act 0&&Nat.ble 3 g.errs with
   | true=>rw [hc] at h;exact h
   | false=>rw [hc] at h;exact GM.zda (GM.zda (GM.zda h))
 . exact h
theorem zlm {part:Int} {i:Nat} {p:Path} (hp:s.paths[i]?=some p) (h:p.zcm=0\/s.clock<p.zcm):zdy part s i=s:=by
 unfold zdy;rw [hp];dsimp only;rw [zy1 h]
theorem yae {part:Int} {i:Nat} (hp:s.paths[i]?=none):zdy part s i=s:=by
 unfold zdy;rw [hp]
theorem SR.setfwd (r:SR E f T P Cs s g) (b o:Bool):SR E f T P Cs {s with forward:=b} {g with fwd:=b,ok:=o}:=by
 obtain ⟨a1,a2,a3,a4,a5,a6,a7,a8,a9,a10,a11,a12,a13,a14,a15,a16,a17,a18,a19,a20,a21⟩:=r;exact yy60
theorem xmj (r:SR E f T P Cs s g) (hc:s.clock+1<=100000) {w sl wt er ac:Nat} (hac:ac=g.act\/ac≠0) (hl:Lim {g with win:=w,slow:=sl,par:=0,al:=0,wait:=wt,errs:=er}) (he:P=2->er<=3)
 (hp:(s.paths.set g.act (Paths.late (pathOf s.clock g) 4))[ac]?=some ⟨w,sl,0,0,er,0,wt⟩)
 (ho:∀ (i:Nat) p,i≠ac->(s.paths.set g.act (Paths.late (pathOf s.clock g) 4))[i]?=some p->p.zak=0/\p.zcm=0/\(i<ac->3<p.errors)/\(ac<i->p=Paths.new 4)) :
 SR E f T P Cs {s with clock:=s.clock+1,out:=s.out.map (Sco.late g.act),paths:=s.paths.set g.act (Paths.late (pathOf s.clock g) 4)} {g with out:=GM.zjb g.out,win:=w,slow:=sl,par:=0,al:=0,wait:=wt,errs:=er,act:=ac}:=by
 have hll:(GM.zjb g.out).length=g.out.length:=by unfold GM.zjb;rw [zy3]
 have hc0:=r.clk0;refine ⟨⟨r.qc.turns,r.qc.part,r.qc.ord,r.qc.mids,r.qc.ends⟩,r.pk,by show (List.set _ _ _).length=P;rw [zy25];exact r.np,r.cum,by show (s.out.map _).length=(GM.zjb g.out).length;rw [zy3,hll];exact r.len,fun j x y hx hy=>?_,by rw [hll];exact r.rest,by rw [hll];exact r.todo,r.zeh,?_,ho,he,r.fwd,r.room,by show 0<=s.clock+1;omega,hc,r.small,r.f0,r.f1,⟨hl.win,hl.slow,hl.par,hl.wait,hl.wait1,hl.errs,hl.al⟩,⟨r.due.queue,fun z hz=>?_⟩⟩
 . have hx:(s.out.map (Sco.late g.act))[j]?=some x:=hx
   have hy:(g.out.map fun x=>bif Nat.beq x.2 1 then (x.1,3) else x)[j]?=some y:=hy;rw [zy13] at hx hy;cases hx0:s.out[j]? with
   | none=>rw [hx0] at hx;cases hx
   | some x0 =>
   cases hy0:g.out[j]? with
   | none=>rw [hy0] at hy;cases hy
   | some y0 =>
   rw [hx0] at hx;rw [hy0] at hy;have hx:Sco.late g.act x0=x:=by simpa using hx
   have hy:(bif Nat.beq y0.2 1 then (y0.1,3) else y0)=y:=by simpa using hy
   obtain ⟨a1,a2,a3,a4,a5⟩:=r.out j x0 y0 hx0 hy0;by_cases c1:y0.2=1
   . rw [GM.zgf c1] at hy
     have hp1:=a5 (.inl c1);have:Sco.late g.act x0={x0 with state:=3}:=by unfold Sco.late;rw [zy1 ⟨by rw [a1,c1];rfl,hp1⟩]
     rw [this] at hx;subst hx;subst hy;exact ⟨rfl,.inr (.inl rfl),fun _=>a3 zz0,fun h=>(by cases h),fun h=>by
      rcases h with h | ⟨h,-⟩
      . cases h
      . show x0.path=(ac:Int)
        rw [hp1,hac.resolve_right fun hn=>hn h]⟩
   . rw [GM.zie c1] at hy
     have:Sco.late g.act x0=x0:=by unfold Sco.late;rw [zy0];rintro ⟨h,-⟩;rw [a1] at h;omega
     rw [this] at hx;have hy:y0=y:=hy;subst hx;subst hy;refine ⟨a1,a2,a3,a4,fun h=>?_⟩;rcases h with h | ⟨h,h2⟩
     . exact absurd h c1
     . have he:=hac.resolve_right fun hn=>hn h
       rw [show ((ac:Nat):Int)=(g.act:Int) by rw [he]];exact a5 (.inr ⟨he ▸ h,h2⟩)
 . show (s.paths.set g.act (Paths.late (pathOf s.clock g) 4))[ac]?=some ⟨w,sl,((0:Nat):Int),(GM.zak (GM.zjb g.out):Int),er,if (0:Nat)=0 then 0 else _,wt⟩
   rw [hp,zwu,zy1 rfl];rfl
 . have hz:z∈s.out.map (Sco.late g.act):=hz
   obtain ⟨x,hx,rfl⟩:=zy23.1 hz;have e:(Sco.late g.act x).id=x.id/\(Sco.late g.act x).tries=x.tries/\(Sco.late g.act x).came=x.came/\(Sco.late g.act x).life=x.life:=by unfold Sco.late;split<;>exact ⟨rfl,rfl,rfl,rfl⟩
   rw [e.1,e.2.1,e.2.2.1,e.2.2.2];exact r.due.out x hx
theorem xbx {P act:Nat} {part:Int} {s:zab} (hP:P=1\/P=2) (ha:act<P) (h:∀ i,i≠act->zdy part s i=s) (h2:∀ i,i≠act->zdy part (zdy part s act) i=zdy part s act):(List.range P).foldl (zdy part) s=zdy part s act:=by
 rcases hP with rfl | rfl
 . have:act=0:=by omega
   subst this;rfl
 . show zdy part (zdy part s 0) 1=zdy part s act
   rcases (show act=0\/act=1 by omega) with rfl | rfl
   . exact h2 1 zz5
   . rw [h 0 (by decide)]
theorem xer (h:SI N s) (r:SR E f T P Cs s g) (hc:s.clock+1<=100000) {two:Bool} (htwo:two=decide (P=2)) (hok:(GM.zib two g).ok=true):SR E f T P Cs (tick s) (GM.zib two g):=by
 have hc0:=r.clk0;have hsm:=r.small;have zcv:=r.act;have hP:=r.p12 h;have hW:W (s.clock+1)=s.clock+1:=zbg zz0 zz0;have h1:SI N {s with clock:=s.clock+1}:=h.side rfl h.zak;have hpath:=r.path;have hq:∀ i,i≠g.act->zdy s.config.part {s with clock:=s.clock+1} i={s with clock:=s.clock+1}:=by
  intro i hi;cases hz:s.paths[i]? with
  | none=>exact yae hz
  | some z=>exact zlm hz (.inl (r.other i z hi hz).2.1)
 have hpa:∀ i,i≠g.act->(zdy s.config.part {s with clock:=s.clock+1} g.act).paths[i]?=s.paths[i]?:=by
  intro i hi;unfold zdy;split
  . rfl
  . split
    . rfl
    . dsimp only
      split
      . show (s.paths.set g.act _)[i]?=_;rw [zy29 fun e=>hi e.symm]
      . show (s.paths.set g.act _)[i]?=_;rw [zy29 fun e=>hi e.symm]
 have hq2:∀ i,i≠g.act->zdy s.config.part (zdy s.config.part {s with clock:=s.clock+1} g.act) i=zdy s.config.part {s with clock:=s.clock+1} g.act:=by
  intro i hi;cases hz:s.paths[i]? with
  | none=>exact yae (by rw [hpa i hi];exact hz)
  | some z=>exact zlm (by rw [hpa i hi];exact hz) (.inl (r.other i z hi hz).2.1)
 have hti:tick s=zdy s.config.part {s with clock:=s.clock+1} g.act:=by
  unfold tick;rw [hW,r.np];exact xbx hP zcv hq hq2
 rw [hti,r.qc.part];have still:∀ al':Nat,al'<=24->(pathOf s.clock g)=pathOf (s.clock+1) {g with al:=al'}->SR E f T P Cs {s with clock:=s.clock+1} {g with al:=al'}:=by
  intro al' hal hpp;refine ⟨⟨r.qc.turns,r.qc.part,r.qc.ord,r.qc.mids,r.qc.ends⟩,r.pk,r.np,r.cum,r.len,r.out,r.rest,r.todo,r.zeh,?_,r.other,r.errs,r.fwd,r.room,by show 0<=s.clock+1;omega,hc,r.small,r.f0,r.f1,⟨r.lim.win,r.lim.slow,r.lim.par,r.lim.wait,r.lim.wait1,r.lim.errs,hal⟩,⟨r.due.queue,r.due.out⟩⟩;show s.paths[g.act]?=_;rw [hpath,hpp]
 have hlal:=r.lim.al;have hlw:=r.lim.wait;have hlw1:=r.lim.wait1;rcases hal:g.al with _ | _ | n
 . have e1:GM.zib two g=g:=by unfold GM.zib;rw [hal]
   rw [e1,zlm (s:={s with clock:=s.clock+1}) hpath (.inl (by show (if g.al=0 then (0:Int) else _)=0;rw [zy1 hal]))];have:=still 0 zz0 (by unfold pathOf;rw [zy1 hal,zy1 rfl]);rw [<- hal] at this;exact this
 . -- the zcm
   have hfire:zdy 4 {s with clock:=s.clock+1} g.act=(if (Sco.zeg (s.out.map (Sco.late g.act)) s.cum).1>s.cum then {s with clock:=s.clock+1,out:=s.out.map (Sco.late g.act),paths:=s.paths.set g.act (Paths.late (pathOf s.clock g) 4),forward:=true} else {s with clock:=s.clock+1,out:=s.out.map (Sco.late g.act),paths:=s.paths.set g.act (Paths.late (pathOf s.clock g) 4)}):=by
    unfold zdy;dsimp only;rw [hpath];dsimp only;rw [zy0];have:(pathOf s.clock g).zcm=s.clock+1:=by
     show (if g.al=0 then (0:Int) else s.clock+(g.al:Int))=_;rw [zy0 (by omega),hal];rfl
    rw [this];omega
   have hsi:=ypg h1 4 g.act;rw [hfire] at hsi ⊢;have hsi2:SI N {s with clock:=s.clock+1,out:=s.out.map (Sco.late g.act),paths:=s.paths.set g.act (Paths.late (pathOf s.clock g) 4)}:=by
    split at hsi
    . exact hsi.side rfl hsi.zak
    . exact hsi
   have fin:∀ {G:GM} {o:Bool},SR E f T P Cs {s with clock:=s.clock+1,out:=s.out.map (Sco.late g.act),paths:=s.paths.set g.act (Paths.late (pathOf s.clock g) 4)} G->G.out=GM.zjb g.out->G.fwd=g.fwd ->
    SR E f T P Cs (if (Sco.zeg (s.out.map (Sco.late g.act)) s.cum).1>s.cum then {s with clock:=s.clock+1,out:=s.out.map (Sco.late g.act),paths:=s.paths.set g.act (Paths.late (pathOf s.clock g) 4),forward:=true} else {s with clock:=s.clock+1,out:=s.out.map (Sco.late g.act),paths:=s.paths.set g.act (Paths.late (pathOf s.clock g) 4)}) {G with fwd:=bif Nat.beq (GM.lead (GM.zjb g.out)) 0 then g.fwd else true,ok:=o}:=by
    intro G o hG ho hf;have hpt:(Sco.zeg (s.out.map (Sco.late g.act)) s.cum).1=s.cum+GM.lead G.out:=congrArg Prod.fst (hG.zeg hsi2);have hle:GM.lead G.out=GM.lead (GM.zjb g.out):=by rw [ho]
    rw [hpt];by_cases e:GM.lead (GM.zjb g.out)=0
    . rw [zy0 (by omega),GM.zgf e]
      have:=hG.setfwd g.fwd o;have e2:s.forward=g.fwd:=r.fwd;rw [<- e2] at this ⊢;exact this
    . rw [zy1 (by omega),GM.zie e]
      exact hG.setfwd true o
   have hlate:∀ h:g.win<=100000,Paths.late (pathOf s.clock g) 4=⟨4,(max (g.win / 2) 16:Nat),0,0,(g.errs+1:Nat),0,(min (2*g.wait) 24:Nat)⟩:=by
    intro hwin;have:=r.lim.errs;unfold Paths.late pathOf;dsimp only;rw [zbg (show (-9223372036854775808:Int)<=(g.win:Int).tdiv 2 by rw [zy147 (by omega)];omega) (by rw [zy147 (by omega)];omega),zbg zz0 zz0,zbg zz0 zz0,zbg zz0 zz0,zy147 zz0];congr 1<;>omega
   have hactl:g.act<s.paths.length:=by rw [r.np];exact zcv
   by_cases hsw:(two&&Nat.beq g.act 0&&Nat.ble 3 g.errs)=true
   . -- to the other path
     have e1:GM.zib two g={g with out:=GM.zjb g.out,fwd:=bif Nat.beq (GM.lead (GM.zjb g.out)) 0 then g.fwd else true,win:=8,slow:=128,par:=0,al:=0,wait:=3,errs:=0,act:=1}:=by
      unfold GM.zib;rw [hal];dsimp only;rw [hsw];rfl
     have hP2:P=2:=by
      have:=GM.zda (GM.zda hsw);rw [htwo] at this;exact zy39 this
     have ha0:g.act=0:=zy6 (GM.zgy (GM.zda hsw));have he3:3<=g.errs:=zy15 (GM.zgy hsw);have her:=r.errs hP2;obtain ⟨q,hq1⟩:∃ q,s.paths[1]?=some q:=⟨_,zy2 (by rw [r.np];omega)⟩
     have hqn:=(r.other 1 q zz0 hq1).2.2.2 zz0;rw [e1];have:=xmj r hc (w:=8) (sl:=128) (wt:=3) (er:=0) (ac:=1) (.inr zz5) ⟨show 8<=200000 by decide,show 128<=200000 by decide,show 0<=400000 by decide,show 3<=24 by decide,show 1<=3 by decide,show 0<=2000 by decide,show 0<=24 by decide⟩ (fun _=>by decide) (by rw [ha0,zy29 (by decide),hq1,hqn];rfl) (fun i p hi hp=>by
      rw [ha0] at hp;rcases zy108 i with rfl | hpos
      . rw [zy17 (by omega)] at hp
        cases hp;refine ⟨rfl,rfl,fun _=>?_,fun h=>by omega⟩;show (3:Int)<W ((g.errs:Int)+1);rw [zbg (by omega) (by omega)];omega
      . have:=Gh.zci hp
        rw [zy25,r.np] at this;omega)
     exact fin this rfl rfl
   . have hsw:(two&&Nat.beq g.act 0&&Nat.ble 3 g.errs)=false:=by cases hb:(two&&Nat.beq g.act 0&&Nat.ble 3 g.errs) with | true=>exact absurd hb hsw | false=>rfl
     have e1:GM.zib two g={g with out:=GM.zjb g.out,fwd:=bif Nat.beq (GM.lead (GM.zjb g.out)) 0 then g.fwd else true,win:=4,slow:=max (g.win / 2) 16,par:=0,al:=0,wait:=min (2*g.wait) 24,errs:=g.errs+1,ok:=g.ok&&(!two||Nat.ble (g.errs+1) 3)&&Nat.ble g.win 100000&&Nat.ble g.errs 1000}:=by
      unfold GM.zib;rw [hal];dsimp only;rw [hsw];rfl
     rw [e1] at hok ⊢;have hok:(((g.ok&&(!two||Nat.ble (g.errs+1) 3))&&Nat.ble g.win 100000)&&Nat.ble g.errs 1000)=true:=hok;have o1:g.errs<=1000:=zy15 (GM.zgy hok);have o2:g.win<=100000:=zy15 (GM.zgy (GM.zda hok));have o3:P=2->g.errs+1<=3:=fun hP2=>by
      have:=GM.zgy (GM.zda (GM.zda hok));rw [htwo,zy12 hP2] at this;exact zy15 this
     have:=xmj r hc (w:=4) (sl:=max (g.win / 2) 16) (wt:=min (2*g.wait) 24) (er:=g.errs+1) (ac:=g.act) (.inl rfl) ⟨show 4<=200000 by decide,by show max (g.win / 2) 16<=200000;omega,show 0<=400000 by decide,by show min (2*g.wait) 24<=24;omega,by show 1<=min (2*g.wait) 24;omega,by show g.errs+1<=2000;omega,show 0<=24 by decide⟩ o3 (by rw [zy17 hactl,hlate o2];rfl) (fun i p hi hp=>by
      rw [zy29 fun e=>hi e.symm] at hp;exact r.other i p hi hp)
     exact fin this rfl rfl
 . have e1:GM.zib two g={g with al:=n+1}:=by unfold GM.zib;rw [hal]
   have hpal:(pathOf s.clock g).zcm=s.clock+(n+2:Nat):=by
    show (if g.al=0 then (0:Int) else s.clock+(g.al:Int))=_;rw [zy0 (by omega),hal]
   rw [e1,zlm (s:={s with clock:=s.clock+1}) hpath (.inr (by rw [hpal];show s.clock+1<_;omega))];refine still (n+1) zz0 ?_;unfold pathOf;dsimp only;rw [zy0 (by omega),zy0 (by omega),hal];congr 1;omega
end
end Tp
namespace Tp
open Ser Ln
structure RS where
 T:Nat->Nat
 U:Nat->List (List UInt8)
 lg:List zcr
def RS.step (st:RS) (x:CH):RS:=if x.last then ⟨at1 st.T x.stream (st.T x.stream+1),at1 st.U x.stream [],st.lg++[⟨x.stream,st.T x.stream,true,(st.U x.stream++[x.data]).flatten⟩]⟩ else ⟨st.T,at1 st.U x.stream (st.U x.stream++[x.data]),st.lg⟩
def RS.run (st:RS) (l:List CH):RS:=l.foldl RS.step st
def RS.new (h:Nat):RS:=if h=0 then ⟨fun _=>0,fun _=>[],[]⟩ else ⟨at1 (fun _=>0) 0 1,fun _=>[],[]⟩
def zua (l:List (List UInt8)):Nat:=(l.map List.length).sum
def zwk (S:Nat):RS->List CH->Prop
 | _,[]=>True
 | st,x::r=>x.stream<S/\x.mid=st.T x.stream/\x.part=(st.U x.stream).length/\st.T x.stream<1000/\zua (st.U x.stream)+x.data.length<=60/\zwk S (st.step x) r
theorem ywf {S:Nat}:∀ {l:List CH} {st:RS} {i:Nat} {x:CH},zwk S st l->l[i]?=some x->x.stream<S/\x.mid=(st.run (l.take i)).T x.stream/\x.part=((st.run (l.take i)).U x.stream).length/\(st.run (l.take i)).T x.stream<1000/\zua ((st.run (l.take i)).U x.stream)+x.data.length<=60
 | [],_,_,_,_,h=>by cases h
 | y::l,st,0,x,h,hx=>by
  have:y=x:=by simpa using hx
  subst this;exact ⟨h.1,h.2.1,h.2.2.1,h.2.2.2.1,h.2.2.2.2.1⟩
 | y::l,st,i+1,x,h,hx=>by
  have:=ywf (i:=i) h.2.2.2.2.2 zz48;rw [zy116];exact this
theorem yip {S:Nat}:∀ {l:List CH} {st:RS},zwk S st l->(∀ k,zua (st.U k)<=60)->∀ k,zua ((st.run l).U k)<=60
 | [],_,_,h,k=>h k
 | x::l,st,h,h0,k=>by
  refine yip (l:=l) (st:=st.step x) h.2.2.2.2.2 (fun j=>?_) k;have h5:=h.2.2.2.2.1;unfold RS.step;split
  . show zua (at1 st.U x.stream [] j)<=60
    unfold at1;split
    . decide
    . exact h0 j
  . show zua (at1 st.U x.stream (st.U x.stream++[x.data]) j)<=60
    unfold at1;split
    . unfold zua at h5 ⊢
      rw [zy40,List.sum_append]
      simpa using h5
    . exact h0 j
theorem ygc {S:Nat}:∀ {l:List CH} {st:RS} (i:Nat),zwk S st l->zwk S st (l.take i)
 | _,_,0,_=>trivial
 | [],_,_+1,h=>h
 | _::_,_,i+1,h=>⟨h.1,h.2.1,h.2.2.1,h.2.2.2.1,h.2.2.2.2.1,ygc i h.2.2.2.2.2⟩
structure RR (h S:Nat) (f:Int) (Cs:List CH) (R:Nat) (r:Receiver):Prop where
 cum:r.cum=f-1+R
 le:R<=Cs.length
 ri:(R=0/\0<h/\RI S (fun _=>0) (fun _=>[]) [] r)\/(h<=R/\RI S ((RS.new h).run ((Cs.drop h).take (R-h))).T ((RS.new h).run ((Cs.drop h).take (R-h))).U ((RS.new h).run ((Cs.drop h).take (R-h))).lg r)
structure yuf (h S:Nat) (f:Int) (Cs:List CH):Prop where
 few:Cs.length<=1000
 zeh:∀ x∈Cs,x.xgo
 f0:0<=f
 f1:f<65536
 zwk:zwk S (RS.new h) (Cs.drop h)
 hS:h=0\/S=1
 S12:S=1\/S=2
 hl:h<=Cs.length
section
variable {h S:Nat} {f:Int} {Cs:List CH} {R:Nat} {r:Receiver}
theorem RR.old (hc:yuf h S f Cs) (hr:RR h S f Cs R r) {i:Nat} {x:CH} (hi:i<R):Rcv.data r (x.mk' f i)=r:=by
 refine xbn r _ ?_;have h1:=hc.few;have h2:=hc.f0;have h3:=hc.f1;have h4:=hr.le;have h5:=hr.cum;have:zcw r.cum (x.mk' f i).tag=f+i:=Rcv.zhd zz0 zz0 zz0 zz0 zz59;rw [this];omega
theorem RR.data (hc:yuf h S f Cs) (hr:RR h S f Cs R r) {x:CH} (hx:Cs[R]?=some x) (hh:h<=R):RR h S f Cs (R+1) (Rcv.data r (x.mk' f R)):=by
 have h1:=hc.few;have h2:=hc.f0;have h3:=hc.f1;have h4:=hr.le;have h5:=hr.cum;have h6:=Gh.zci hx;have hri:=hr.ri;rcases hri with ⟨e1,e2,-⟩ | ⟨-,hri⟩
 . omega
 have hn:zcw r.cum (x.mk' f R).tag=r.cum+1:=Rcv.zhd zz0 zz0 zz0 zz0 zz59;have hxd:(Cs.drop h)[R-h]?=some x:=by rw [zy46,show h+(R-h)=R by omega];exact hx
 obtain ⟨g1,g2,g3,g4,g5⟩:=ywf hc.zwk hxd;have htake:(Cs.drop h).take (R+1-h)=(Cs.drop h).take (R-h)++[x]:=by
  rw [show R+1-h=R-h+1 by omega,List.take_add_one,hxd];rfl
 have zen:(RS.new h).run ((Cs.drop h).take (R+1-h))=((RS.new h).run ((Cs.drop h).take (R-h))).step x:=by
  rw [htake];unfold RS.run;rw [zy84];rfl
 generalize (RS.new h).run ((Cs.drop h).take (R-h))=st at hri g2 g3 g4 g5 zen;obtain ⟨d1,d2,d3⟩:=yvc hri (c:=x.mk' f R) (k:=x.stream) g1 rfl rfl (by show ((x.mid:Nat):Int)=_;rw [g2]) (by show ((x.part:Nat):Int)=_;rw [g3]) rfl hn g4;refine ⟨by rw [d1,h5];push_cast;omega,h6,.inr ⟨by omega,?_⟩⟩;rw [zen];unfold RS.step;have hl:(x.mk' f R).last=x.last:=rfl;rw [hl] at d3;cases hb:x.last with
 | true=>rw [hb] at d3;exact d3
 | false=>rw [hb] at d3;exact d3
theorem RR.fold (hr:RR h S f Cs R r) {n:Nat} (hn:n<=R) (hc:yuf h S f Cs):Rcv.forward r (zwj f n)=r:=by
 refine xig r _ ?_;have h1:=hc.few;have h2:=hc.f0;have h3:=hc.f1;have h4:=hr.le;have h5:=hr.cum;have:zcw r.cum (zwj f n).tag=f-1+n:=Rcv.zhd zz0 zz0 zz0 zz0 zz59;rw [this];omega
theorem RR.skip (hr:RR h S f Cs 0 r) (hc:yuf h S f Cs) (hh:0<h):RR h S f Cs h (Rcv.forward r (zwj f h)):=by
 have h1:=hc.few;have h2:=hc.f0;have h3:=hc.f1;have h4:=hc.hl;have h5:=hr.cum;have hS:S=1:=hc.hS.resolve_left zz0;have hri:RI S (fun _=>0) (fun _=>[]) [] r:=by
  rcases hr.ri with ⟨-,-,e⟩ | ⟨e,-⟩
  . exact e
  . omega
 rw [hS] at hri;have hn:zcw r.cum (zwj f h).tag=f-1+h:=Rcv.zhd zz0 zz0 zz0 zz0 zz59;obtain ⟨d1,d2,d3⟩:=xbz hri rfl rfl (c:=zwj f h) rfl rfl hn zz0;refine ⟨by rw [d1],h4,.inr ⟨zy19 _,?_⟩⟩;rw [zy91,List.take_zero];show RI S (RS.new h).T (RS.new h).U (RS.new h).lg _;unfold RS.new;rw [zy0 (by omega),hS];exact d3
theorem RR.zle (hr:RR h S f Cs R r) (hc:yuf h S f Cs):∃ n:Int,Rcv.zle r=⟨2,tag (f-1+R),0,0,0,false,false,[],[],n,[]⟩/\280<=n/\n<=400:=by
 have hq:∀ {T U lg},RI S T U lg r->(∀ k,zua (U k)<=60)->r.zaq=[]/\(Jn.tot r.pieces:Int)<=120:=by
  intro T U lg hri hu;refine ⟨hri.zaq,?_⟩;have h0:=hu 0;have h1:=hu 1;unfold zua at h0 h1;rcases hc.S12 with e | e
  . subst e
    have:=hri.held1;omega
  . subst e
    have:=hri.held2;omega
 have hb:r.zaq=[]/\(Jn.tot r.pieces:Int)<=120:=by
  rcases hr.ri with ⟨-,-,e⟩ | ⟨-,e⟩
  . exact hq e fun _=>by show (0:Nat)<=60;omega
  . refine hq e (yip (S:=S) (ygc _ hc.zwk) fun k=>?_)
    unfold RS.new;split<;>(show (0:Nat)<=60;omega)
 refine ⟨400-Jn.tot r.pieces,?_,by omega,by omega⟩;unfold Rcv.zle;rw [hb.1,zy0 (by omega),hr.cum];rfl
theorem yzd {n t:Int} (h1:0<=n) (h2:n<=400):Pck.zcu [⟨2,tag t,0,0,0,false,false,[],[],n,[]⟩] 120=(Pck.zbh [⟨2,tag t,0,0,0,false,false,[],[],n,[]⟩],0)/\Pck.zfe (Pck.zbh [⟨2,tag t,0,0,0,false,false,[],[],n,[]⟩])=([⟨2,tag t,0,0,0,false,false,[],[],n,[]⟩],0):=by
 have ht:=yjq t;have hw:Chk.zdl ⟨2,tag t,0,0,0,false,false,[],[],n,[]⟩=0:=by
  unfold Chk.zdl;dsimp only;rw [zy0 (by decide),zy0 (by omega),zy0 (by decide),zy1 rfl,zy0 (by omega),zy0 (by decide)];rfl
 have hl:(Pck.zbh [⟨2,tag t,0,0,0,false,false,[],[],n,[]⟩]).length=6:=by
  unfold Pck.zbh;rw [zy136,List.flatMap_nil,zy9];unfold Chk.bytes;rw [zy1 hw];unfold Chk.body;dsimp only;rw [zy0 (by decide),zy1 rfl];simp [zwb,Chk.zco]
 have hf:Pck.zcb [⟨2,tag t,0,0,0,false,false,[],[],n,[]⟩]=0:=by
  unfold Pck.zcb;rw [zy0 (fun hc=>hc hw)];rfl
 refine ⟨?_,?_⟩
 . unfold Pck.zcu
   rw [zy0 (by simp),zy0 (fun hc=>hc hf),zy0 (by rw [hl];decide)]
 . unfold Pck.zfe
   rw [zy0 (by rw [hl];decide),Pck.zjt (zy19 _) hf];rfl
end
end Tp
namespace Tp
open Ser Ln
structure LR (E:List Int) (N h S:Nat) (f T:Int) (P:Nat) (Cs:List CH) (l:zdi) (g:GM):Prop where
 si:Snd.SI N l.sender
 few:N<=500
 sr:SR E f T P Cs l.sender g
 cs:yuf h S f Cs
 rr:RR h S f Cs g.R l.receiver
 way:zzb (xpu f Cs g.act) l.way g.way
 codes:∀ m,GP.data m∈g.way->m≠[]/\∀ c∈m,c % 2=0->c / 2<g.a+g.out.length/\∃ x,Cs[c / 2]?=some x
 Rle:g.R<=g.a+g.out.length
 hle:h<=g.a+g.out.length
 alen:g.a+g.out.length<=Cs.length
section
variable {E:List Int} {N h S:Nat} {f T:Int} {P:Nat} {Cs:List CH} {l:zdi} {g:GM}
theorem ydj:∀ (l:List (Nat×Nat)) (z:Nat) (cur:List Nat) (m:List Nat),GP.data m∈GM.pack z cur l->(∀ y∈l,y.2<=60)->(cur=[]->z=0)->m≠[]/\∀ c∈m,c∈cur\/∃ y∈l,y.1=c
 | [],z,cur,m,h,_,_=>by
  cases cur with
  | nil=>cases h
  | cons a cur =>
   have h:GP.data m∈[GP.data (a::cur)]:=h;rw [zy7] at h;cases h;exact ⟨by simp,fun c hc=>.inl hc⟩
 | x::l,z,cur,m,h,hy,h0=>by
  have h:GP.data m∈(bif Nat.ble (Nat.add z x.2) 60 then GM.pack (z+x.2) (cur++[x.1]) l else .data cur::GM.pack x.2 [x.1] l):=h;have hl:∀ y∈l,y.2<=60:=fun y hy2=>hy y (by simp [hy2])
  cases hb:Nat.ble (Nat.add z x.2) 60 with
  | true =>
   rw [hb] at h;obtain ⟨h1,h2⟩:=ydj l _ _ m h hl (fun e=>absurd e zz3);refine ⟨h1,fun c hc=>?_⟩;rcases h2 c hc with h3 | ⟨y,h3,h4⟩
   . rcases zy10.1 h3 with h3 | h3
     . exact .inl h3
     . rw [zy7] at h3;exact .inr ⟨x,by simp,h3.symm⟩
   . exact .inr ⟨y,by simp [h3],h4⟩
  | false =>
   rw [hb] at h;rcases zy18.1 h with h | h
   . cases h
     refine ⟨fun e=>?_,fun c hc=>.inl hc⟩;have:Nat.ble (Nat.add z x.2) 60=true:=by rw [h0 e];exact zy69 (by have:=hy x (by simp);show 0+x.2<=60;omega)
     rw [hb] at this;cases this
   . obtain ⟨h1,h2⟩:=ydj l _ _ m h hl (fun e=>absurd e zz3)
     refine ⟨h1,fun c hc=>?_⟩;rcases h2 c hc with h3 | ⟨y,h3,h4⟩
     . rw [zy7] at h3;exact .inr ⟨x,by simp,h3.symm⟩
     . exact .inr ⟨y,by simp [h3],h4⟩
theorem ydp:∀ (ps w:List zba),w.length+ps.length<=40->zrd w ps=w++ps
 | [],w,_=>(zy9 w).symm
 | p::ps,w,h=>by
  rw [zy8] at h;unfold zrd;rw [zy35];have:xge w p=w++[p]:=by unfold xge;rw [zy1 (by omega)]
  rw [this];have ih:=ydp ps (w++[p]) (by rw [zy4,zy48];omega);unfold zrd at ih;rw [ih,zy24];rfl
theorem zqh (g:GM):(GM.zfc g).way=g.way++GM.pack 0 [] (GM.emG g):=by
 show (GM.zio g).1.way++_=_;unfold GM.zio;cases g.fwd&&!Nat.beq (GM.lead g.out) 0<;>rfl
theorem xgd (g:GM):(GM.zfc g).R=g.R:=by
 show (GM.zio g).1.R=_;unfold GM.zio;cases g.fwd&&!Nat.beq (GM.lead g.out) 0<;>rfl
theorem xea (g:GM):(GM.zfc g).act=g.act:=by
 show (GM.zio g).1.act=_;unfold GM.zio;cases g.fwd&&!Nat.beq (GM.lead g.out) 0<;>rfl
theorem zpi (win:Nat):∀ (l:List (Nat×Nat)) (i f:Nat),(GM.again win i f l).1.length=l.length
 | [],_,_=>rfl
 | x::l,i,f=>by
  rw [GM.zzc];split
  . show _+1=_;rw [zpi win l];rfl
  . show _+1=_;rw [zpi win l];rfl
theorem yif (g:GM):g.a+g.out.length<=(GM.zfc g).a+(GM.zfc g).out.length:=by
 have ha:(GM.zfc g).a=g.a:=by
  show (GM.zio g).1.a=_;unfold GM.zio;cases g.fwd&&!Nat.beq (GM.lead g.out) 0<;>rfl
 have ho:(GM.zio g).1.out=g.out:=by
  unfold GM.zio;cases g.fwd&&!Nat.beq (GM.lead g.out) 0<;>rfl
 rw [ha];show _<=g.a+((GM.again (GM.zio g).1.win (GM.zio g).1.a (GM.zak (GM.zio g).1.out) (GM.zio g).1.out).1++_).length;rw [zy4,zpi,ho];omega
theorem yqd (g:GM):(GM.zfc g).a+(GM.zfc g).out.length<=g.a+g.out.length+g.todo.length:=by
 have ha:(GM.zfc g).a=g.a:=by
  show (GM.zio g).1.a=_;unfold GM.zio;cases g.fwd&&!Nat.beq (GM.lead g.out) 0<;>rfl
 have ho:(GM.zio g).1.out=g.out/\(GM.zio g).1.todo=g.todo:=by
  unfold GM.zio;cases g.fwd&&!Nat.beq (GM.lead g.out) 0<;>exact ⟨rfl,rfl⟩
 rw [ha];show g.a+((GM.again (GM.zio g).1.win (GM.zio g).1.a (GM.zak (GM.zio g).1.out) (GM.zio g).1.out).1++((GM.zio g).1.todo.take (GM.yne (GM.ziv (GM.zio g).1).1).1).map _).length<=_;rw [zy4,zpi,zy3,zy55,ho.1,ho.2];omega
theorem xhq (r:LR E N h S f T P Cs l g) (hT:l.sender.clock<=T) (hok:(GM.zfc g).ok=true):LR E N h S f T P Cs (emit l) (GM.zfc g):=by
 obtain ⟨si,few,sr,cs,rr,way,codes,Rle,hle,alen⟩:=r;obtain ⟨p1,p2,p3⟩:=xec si sr hT hok;obtain ⟨o1,o2,o3⟩:=GM.yly hok;have hh:=yif g;have hwl:l.way.length+(Snd.zfc l.sender).2.length<=40:=by
  rw [zqh,zy4] at o3;rw [way.len,p2.len];exact o3
 refine ⟨Snd.yyv si,few,p1,cs,by rw [xgd];exact rr,?_,fun m hm=>?_,by rw [xgd];omega,by omega,?_⟩
 case refine_3 =>
  have h1:=yqd g;have h2:=congrArg List.length sr.todo;rw [zy3,zy37] at h2;omega
 . rw [zqh,xea]
   show zzb _ (zrd l.way (Snd.zfc l.sender).2) _;rw [ydp _ _ hwl];exact way.app p2
 . rw [zqh] at hm
   rcases zy10.1 hm with hm | hm
   . obtain ⟨c1,c2⟩:=codes m hm
     refine ⟨c1,fun c hc h2=>?_⟩;obtain ⟨c3,c4⟩:=c2 c hc h2;exact ⟨by omega,c4⟩
   . obtain ⟨c1,c2⟩:=ydj _ 0 [] m hm (fun y hy=>by have:=(zmq (f:=f) (p3 y hy).1).2.2.2;omega) fun _=>rfl
     refine ⟨c1,fun c hc h2=>?_⟩;rcases c2 c hc with h3 | ⟨y,y1,y2⟩
     . cases h3
     . subst y2
       obtain ⟨q1,q2⟩:=p3 y y1;refine ⟨q2 h2,?_⟩;rcases q1 with ⟨q1,-⟩ | ⟨-,x,q3,-⟩
       . omega
       . exact ⟨x,q3⟩
theorem zjr:∀ (m:List Nat) (x:Nat×Bool),(GM.items h m x).2=true->x.2=true
 | [],_,e=>e
 | c::m,x,e=>by
  have e:(bif Nat.beq (Nat.mod c 2) 1 then (bif Nat.ble (Nat.div c 2) x.1 then GM.items h m x else GM.items h m (Nat.div c 2,x.2&&(Nat.beq x.1 0&&Nat.beq (Nat.div c 2) h))) else (bif Nat.beq (Nat.div c 2) x.1 then GM.items h m (Nat.succ x.1,x.2&&Nat.ble h x.1) else GM.items h m (x.1,x.2&&Nat.ble (Nat.div c 2) x.1))).2=true:=e;cases h1:Nat.beq (Nat.mod c 2) 1 with
  | true =>
   rw [h1] at e;cases h2:Nat.ble (Nat.div c 2) x.1 with
   | true=>rw [h2] at e;exact zjr m _ e
   | false=>rw [h2] at e;exact GM.zda (zjr m _ e)
  | false =>
   rw [h1] at e;cases h2:Nat.beq (Nat.div c 2) x.1 with
   | true=>rw [h2] at e;exact GM.zda (zjr m _ e)
   | false=>rw [h2] at e;exact GM.zda (zjr m _ e)
theorem ygy (cs:yuf h S f Cs) {n:Nat}:∀ (m:List Nat) (L:zdi) (b:Bool) (x:Nat×Bool),RR h S f Cs x.1 L.receiver->(∀ c∈m,c % 2=0->c / 2<n/\∃ y,Cs[c / 2]?=some y)->x.1<=n->h<=n->(GM.items h m x).2=true ->
 ∃ r,(m.map (zpf f Cs)).foldl (zgz false) (L,b)=({L with receiver:=r},b||!m.isEmpty)/\RR h S f Cs (GM.items h m x).1 r/\(GM.items h m x).1<=n
 | [],L,b,x,hr,_,hn,_,_=>⟨L.receiver,by rw [zy87,List.foldl_nil];simp,hr,hn⟩
 | c::m,L,b,x,hr,hm,hn,hhn,hok=>by
  have hm2:∀ c∈m,c % 2=0->c / 2<n/\∃ y,Cs[c / 2]?=some y:=fun d hd=>hm d (by simp [hd])
  have e0:GM.items h (c::m) x=(bif Nat.beq (Nat.mod c 2) 1 then (bif Nat.ble (Nat.div c 2) x.1 then GM.items h m x else GM.items h m (Nat.div c 2,x.2&&(Nat.beq x.1 0&&Nat.beq (Nat.div c 2) h))) else (bif Nat.beq (Nat.div c 2) x.1 then GM.items h m (Nat.succ x.1,x.2&&Nat.ble h x.1) else GM.items h m (x.1,x.2&&Nat.ble (Nat.div c 2) x.1))):=rfl;rw [zy27,zy35];have fin:∀ (r:Receiver) (x':Nat×Bool),zgz false (L,b) (zpf f Cs c)=({L with receiver:=r},true)->GM.items h (c::m) x=GM.items h m x'->RR h S f Cs x'.1 r->x'.1<=n ->
   ∃ r,(m.map (zpf f Cs)).foldl (zgz false) (zgz false (L,b) (zpf f Cs c))=({L with receiver:=r},b||!(c::m).isEmpty)/\RR h S f Cs (GM.items h (c::m) x).1 r/\(GM.items h (c::m) x).1<=n:=by
   intro r x' h1 h2 h3 h4;rw [h2] at hok ⊢;rw [h1];obtain ⟨r',r1,r2,r3⟩:=ygy cs m {L with receiver:=r} true x' h3 hm2 h4 hhn hok;exact ⟨r',by rw [r1];simp,r2,r3⟩
  have hmod:Nat.mod c 2=c % 2:=rfl;have hdiv:Nat.div c 2=c / 2:=rfl;rw [hmod,hdiv] at e0;by_cases c1:c % 2=1
  . have hch:zpf f Cs c=zwj f (c / 2):=by unfold zpf;rw [zy1 c1]
    rw [GM.zgf c1] at e0;have hh1:zgz false (L,b) (zpf f Cs c)=({L with receiver:=Rcv.forward L.receiver (zwj f (c / 2))},true):=by rw [hch];rfl
    by_cases c2:c / 2<=x.1
    . rw [show Nat.ble (c / 2) x.1=true from zy69 c2] at e0
      exact fin _ x hh1 e0 (by rw [hr.fold c2 cs];exact hr) hn
    . rw [show Nat.ble (c / 2) x.1=false by cases hb:Nat.ble (c / 2) x.1 with | false=>rfl | true=>exact absurd (zy15 hb) c2] at e0
      have e0:GM.items h (c::m) x=GM.items h m (c / 2,x.2&&(Nat.beq x.1 0&&Nat.beq (c / 2) h)):=e0;have hok2:=hok;rw [e0] at hok2;have o1:=GM.zgy (zjr m _ hok2);have o2:x.1=0:=zy6 (GM.zda o1);have o3:c / 2=h:=zy6 (GM.zgy o1);rw [o2] at hr;exact fin _ _ hh1 e0 (by rw [o3];exact hr.skip cs (by omega)) zz60
  . have c0:c % 2=0:=by omega
    obtain ⟨hcn,y,hy⟩:=hm c zz3 c0;have hch:zpf f Cs c=y.mk' f (c / 2):=by unfold zpf;rw [zy0 c1,hy]
    rw [GM.zie c1] at e0;have hh1:zgz false (L,b) (zpf f Cs c)=({L with receiver:=Rcv.data L.receiver (y.mk' f (c / 2))},true):=by rw [hch];rfl
    by_cases c2:c / 2=x.1
    . rw [GM.zgf c2] at e0
      have e0:GM.items h (c::m) x=GM.items h m (x.1+1,x.2&&Nat.ble h x.1):=e0;have hok2:=hok;rw [e0] at hok2;have o1:=zy15 (GM.zgy (zjr m _ hok2));rw [c2] at hy hcn hh1;exact fin _ _ hh1 e0 (hr.data cs hy o1) hcn
    . rw [GM.zie c2] at e0
      have e0:GM.items h (c::m) x=GM.items h m (x.1,x.2&&Nat.ble (c / 2) x.1):=e0;have hok2:=hok;rw [e0] at hok2;have o1:=zy15 (GM.zgy (zjr m _ hok2));exact fin _ _ hh1 e0 (by rw [hr.old cs (by omega)];exact hr) hn
theorem zhr {g:GM} (h:(GM.zfc g).ok=true):g.ok=true:=(GM.yly h).1
theorem xgf {g:GM} {ps:List GP} (h:(GM.xpk g ps).ok=true):g.ok=true/\g.way.length+ps.length<=40:=⟨GM.zda h,zy15 (GM.zgy h)⟩
theorem ygk (g:GM) (c:Nat):(GM.zjo g c).R=g.R/\(GM.zjo g c).way=g.way/\(GM.zjo g c).act=g.act/\(GM.zjo g c).a=c/\(GM.zjo g c).out=g.out.drop (c-g.a):=by
 obtain ⟨-,q2,q3,-,-,q6,q7,q8,-⟩:=zvc (GM.zza g c) (GM.bytes (g.out.take (c-g.a)));exact ⟨q7,q8,q6,q3,q2⟩
theorem SR.other' {s:zab} (r:SR E f T P Cs s g) (R:Nat) (w:List GP) (o:Bool):SR E f T P Cs s {g with R:=R,way:=w,ok:=o}:=by
 obtain ⟨a1,a2,a3,a4,a5,a6,a7,a8,a9,a10,a11,a12,a13,a14,a15,a16,a17,a18,a19,a20,a21⟩:=r;exact ⟨a1,a2,a3,a4,a5,a6,a7,a8,a9,a10,a11,a12,a13,a14,a15,a16,a17,a18,a19,⟨a20.win,a20.slow,a20.par,a20.wait,a20.wait1,a20.errs,a20.al⟩,a21⟩
theorem xhi (r:LR E N h S f T P Cs l g) (hw:g.way≠[]) (hok:(GM.zfm h g).ok=true):∃ l1 g1,(doS l (stp 2)).1=emit l1/\GM.zfm h g=GM.zfc g1/\LR E N h S f T P Cs l1 g1/\(l1.sender=l.sender\/∃ c,l1.sender=Snd.zjo l.sender c):=by
 cases hg:g.way with
 | nil=>exact absurd hg hw
 | cons gp w =>
 have hway:=r.way;have hcod:=r.codes;rw [hg] at hway hcod;cases hl:l.way with
 | nil=>rw [hl] at hway;cases hway
 | cons p v =>
 rw [hl] at hway;cases hway with
 | cons hp ht =>
 have hdo:(doS l (stp 2)).1=emit (Ln.zfm {l with way:=v} p):=by
  unfold doS;rw [zy0 (show ¬ (stp 2).kind=1 by decide),zy1 (.inl rfl),zy0 (show ¬ (stp 2).n<0 by decide)];show (match l.way[0]? with | none=>_ | some p=>_:zdi×Answer).1=_;rw [hl];show (if (2:Int)=4 then _ else (emit (if (2:Int)=2 then Ln.zfm {l with way:=(p::v).eraseIdx 0} p else _),_):zdi×Answer).1=_;rw [zy0 (by decide),zy1 rfl];rfl
 rw [hdo];cases gp with
 | data m =>
  have e0:GM.zfm h g=GM.zfc (GM.xpk {g with R:=(GM.items h m (g.R,g.ok)).1,way:=w,ok:=(GM.items h m (g.R,g.ok)).2} [.zex (GM.items h m (g.R,g.ok)).1]):=by unfold GM.zfm;rw [hg]
  rw [e0] at hok ⊢;obtain ⟨o1,o2⟩:=xgf (zhr hok);obtain ⟨q1,q2,q3⟩:=hp;obtain ⟨c1,c2⟩:=hcod m zz3;obtain ⟨rc,r1,r2,r3⟩:=ygy r.cs m {l with way:=v} false (g.R,g.ok) r.rr c2 r.Rle r.hle o1;have hne:m.isEmpty=false:=by cases m with | nil=>exact absurd rfl c1 | cons _ _=>rfl
  rw [hne] at r1;obtain ⟨n,t1,t2,t3⟩:=r2.zle r.cs;have hsw:=yzd (n:=n) (t:=f-1+((GM.items h m (g.R,g.ok)).1:Nat)) zz0 t3;have hcome:Ln.zfm {l with way:=v} p={sender:=l.sender,receiver:=rc,way:=v++[⟨p.path,true,Pck.zbh [⟨2,tag (f-1+((GM.items h m (g.R,g.ok)).1:Nat)),0,0,0,false,false,[],[],n,[]⟩]⟩]}:=by
   unfold Ln.zfm zik;rw [q3];rw [zy0 (fun hc=>hc rfl),q1,r1];show (if (false||!false)=true then told p.path {l with way:=v,receiver:=rc} else _)=_;rw [zy1 (show (false||!false)=true from rfl)];unfold told;rw [t1,hsw.1,zy1 rfl];show ({l with receiver:=rc,way:=zrd v [_]}:zdi)=_;rw [ydp _ _ (by rw [ht.len];exact o2)]
  rw [hcome];refine ⟨_,_,rfl,rfl,⟨r.si,r.few,r.sr.other' _ _ _,r.cs,r2,?_,fun m' hm'=>?_,r3,r.hle,r.alen⟩,.inl rfl⟩
  . show zzb _ (v++[_]) (w++[_])
    exact ht.app (.cons ⟨rfl,q2,_,hsw.2,rfl,rfl,rfl,t2⟩ .nil)
  . have hm':GP.data m'∈w++[GP.zex _]:=hm'
    rcases zy10.1 hm' with hm' | hm'
    . exact hcod m' (by simp [hm'])
    . rw [zy7] at hm';cases hm'
 | zex c =>
  have e0:GM.zfm h g=GM.zfc (GM.zjo {g with way:=w} c):=by unfold GM.zfm;rw [hg]
  rw [e0] at hok ⊢;have o1:=zhr hok;obtain ⟨h1,h2,h3,h4,h5,h6⟩:=ykz o1;obtain ⟨s1,s2,s3,s4,s5⟩:=ygk {g with way:=w} c;obtain ⟨q1,q2,ch,q3,q4,q5,q6,q7⟩:=hp;have hcome:Ln.zfm {l with way:=v} p={sender:=Snd.zjo l.sender ch,receiver:=l.receiver,way:=v}:=by
   unfold Ln.zfm zik;rw [q3,q1];rfl
  rw [hcome];have hsr:=xce r.si r.few (r.sr.other' g.R w g.ok) q4 q5 q6 q7 o1;have hsum:(GM.zjo {g with way:=w} c).a+(GM.zjo {g with way:=w} c).out.length=g.a+g.out.length:=by
   rw [s4,s5,zy37];dsimp only at h2 h3 ⊢;omega
  refine ⟨_,_,rfl,rfl,⟨Snd.ywl r.si ch,r.few,hsr,r.cs,by rw [s1];exact r.rr,by rw [s2,s3];exact ht,fun m' hm'=>?_,by rw [hsum,s1];exact r.Rle,by rw [hsum];exact r.hle,by rw [hsum];exact r.alen⟩,.inr ⟨ch,rfl⟩⟩;rw [s2] at hm';obtain ⟨d1,d2⟩:=hcod m' (zy126 _ hm');rw [hsum];exact ⟨d1,d2⟩
theorem yve (r:LR E N h S f T P Cs l g) (hw:g.way≠[]):∃ l1 g1,(doS l (stp 3)).1=emit l1/\GM.drop g=GM.zfc g1/\LR E N h S f T P Cs l1 g1/\l1.sender=l.sender:=by
 cases hg:g.way with
 | nil=>exact absurd hg hw
 | cons gp w =>
 have hway:=r.way;have hcod:=r.codes;rw [hg] at hway hcod;cases hl:l.way with
 | nil=>rw [hl] at hway;cases hway
 | cons p v =>
 rw [hl] at hway;cases hway with
 | cons hp ht =>
 have hdo:(doS l (stp 3)).1=emit {l with way:=v}:=by
  unfold doS;rw [zy0 (show ¬ (stp 3).kind=1 by decide),zy1 (.inr (.inl rfl)),zy0 (show ¬ (stp 3).n<0 by decide)];show (match l.way[0]? with | none=>_ | some p=>_:zdi×Answer).1=_;rw [hl];show (if (3:Int)=4 then _ else (emit (if (3:Int)=2 then _ else {l with way:=(p::v).eraseIdx 0}),_):zdi×Answer).1=_;rw [zy0 (by decide),zy0 (by decide)];rfl
 have e0:GM.drop g=GM.zfc {g with way:=w}:=by unfold GM.drop;rw [hg]
 rw [hdo];rw [e0];exact ⟨_,_,rfl,rfl,⟨r.si,r.few,r.sr.other' g.R w g.ok,r.cs,r.rr,ht,fun m' hm'=>hcod m' (zy126 _ hm'),r.Rle,r.hle,r.alen⟩,rfl⟩
theorem yua (two:Bool) (g:GM):(GM.zib two g).R=g.R/\(GM.zib two g).way=g.way/\(GM.zib two g).a=g.a/\(GM.zib two g).out.length=g.out.length/\((GM.zib two g).act=g.act\/two=true):=by
 unfold GM.zib;split
 . exact ⟨rfl,rfl,rfl,rfl,.inl rfl⟩
 . cases hc:two&&Nat.beq g.act 0&&Nat.ble 3 g.errs with
   | true=>exact ⟨rfl,rfl,rfl,by show (GM.zjb g.out).length=_;unfold GM.zjb;rw [zy3],.inr (GM.zda (GM.zda hc))⟩
   | false=>exact ⟨rfl,rfl,rfl,by show (GM.zjb g.out).length=_;unfold GM.zjb;rw [zy3],.inl rfl⟩
 . exact ⟨rfl,rfl,rfl,rfl,.inl rfl⟩
theorem ymq (r:LR E N h S f T P Cs l g) {two:Bool} (htwo:two=decide (P=2)) (hc:l.sender.clock+1<=100000) (hw:two=true->g.way=[]) (o1:(GM.zib two g).ok=true):∃ l1,(doS l (stp 5)).1=emit l1/\LR E N h S f T P Cs l1 (GM.zib two g)/\l1.sender=Snd.tick l.sender:=by
 have hdo:(doS l (stp 5)).1=emit {l with sender:=Snd.tick l.sender}:=by
  unfold doS;rw [zy0 (show ¬ (stp 5).kind=1 by decide),zy0 (show ¬ ((stp 5).kind=2\/(stp 5).kind=3\/(stp 5).kind=4) by decide),zy1 (show (stp 5).kind=5 from rfl)]
 rw [hdo];obtain ⟨s1,s2,s3,s4,s5⟩:=yua two g;refine ⟨_,rfl,⟨Snd.zyg r.si,r.few,xer r.si r.sr hc htwo o1,r.cs,by rw [s1];exact r.rr,?_,fun m' hm'=>?_,by rw [s1,s3,s4];exact r.Rle,by rw [s3,s4];exact r.hle,by rw [s3,s4];exact r.alen⟩,rfl⟩
 . show zzb _ l.way _
   rw [s2];rcases s5 with s5 | s5
   . rw [s5];exact r.way
   . have hwl:=r.way
     have e:=hw s5;rw [e] at hwl ⊢;cases hlw:l.way with
     | nil=>exact .nil
     | cons p v=>rw [hlw] at hwl;cases hwl
 . rw [s2] at hm'
   rw [s3,s4];exact r.codes m' hm'
theorem xbj {g:GM} (hok:(GM.zfm h g).ok=true):g.ok=true:=by
 unfold GM.zfm at hok;split at hok
 . exact hok
 . exact zjr _ _ (xgf (zhr hok)).1
 . exact (ykz (zhr hok)).1
theorem zvs:∀ (n:Nat) {g:GM},(GM.comes h n g).ok=true->g.ok=true
 | 0,_,hok=>hok
 | n+1,g,hok=>xbj (zvs n (g:=GM.zfm h g) hok)
theorem zqx {two:Bool} {g:GM} (hok:(GM.tick two g).ok=true):g.ok=true:=xan (zhr hok)
theorem yzb {g:GM} (hok:(GM.round h g).ok=true):g.ok=true:=zvs _ (zqx hok)
theorem zsl:∀ (n:Nat) {g:GM},(GM.settle h n g).ok=true->g.ok=true
 | 0,_,hok=>hok
 | n+1,g,hok=>by
  have hok:(bif GM.busy g then GM.settle h n (GM.round h g) else g).ok=true:=hok;cases hb:GM.busy g with
  | true=>rw [hb] at hok;exact yzb (zsl n hok)
  | false=>rw [hb] at hok;exact hok
end
end Tp
namespace Tp
open Ser Snd Ln
def Has (s:zab) (id:Nat):Prop:=(∃ m∈s.queue,m.id=(id:Int))\/∃ x∈s.out,x.id=(id:Int)
structure Kp (s t:zab):Prop where
 cfg:t.config=s.config
 clock:t.clock=s.clock
 fates:t.fates=s.fates
 ids:∀ id,Has s id->Has t id
theorem Kp.rfl' (s:zab):Kp s s:=⟨rfl,rfl,rfl,fun _ h=>h⟩
theorem Kp.trans {s t u:zab} (h:Kp s t) (k:Kp t u):Kp s u:=⟨k.cfg.trans h.cfg,k.clock.trans h.clock,k.fates.trans h.fates,fun id hi=>k.ids id (h.ids id hi)⟩
theorem xfl (p:zfs) (i path:Nat):Kp p.s (fly p i path).s:=by
 unfold fly;split
 . exact Kp.rfl' _
 . rename_i x hx
   refine ⟨rfl,rfl,rfl,fun id h=>h.imp (fun h=>h) fun ⟨y,y1,y2⟩=>?_⟩;obtain ⟨j,hj⟩:=zy33 y1;by_cases e:i=j
   . subst e
     rw [hx] at hj;cases hj;exact ⟨zuj x path,zy5 (i:=i) (by show (p.s.out.set i (zuj x path))[i]?=_;rw [zy17 (Gh.zci hx)]),y2⟩
   . exact ⟨y,zy5 (i:=j) (by show (p.s.out.set i (zuj x path))[j]?=_;rw [zy29 e];exact hj),y2⟩
theorem yuq (path:Nat) (p:zfs) (i:Nat):Kp p.s (zct path p i).s:=by
 unfold zct;split
 . exact Kp.rfl' _
 . split
   . exact xfl _ _ _
   . exact Kp.rfl' _
theorem yeu (path:Nat):∀ (l:List Nat) (p:zfs),Kp p.s (l.foldl (zct path) p).s
 | [],p=>Kp.rfl' _
 | i::l,p=>by rw [zy35];exact (yuq path p i).trans (yeu path l _)
theorem xje {p q:zfs} (h:next p=some q):Kp p.s q.s:=by
 obtain ⟨s,o⟩:=p;unfold next at h;dsimp only at h;split at h
 . cases h
 cases hm:s.queue[(zdh s).toNat]? with
 | none=>rw [hm] at h;cases h
 | some m =>
  rw [hm] at h;dsimp only at h;split at h
  . cases h
  . cases h
    rw [zjd];refine Kp.trans ?_ (xfl _ _ _);refine ⟨rfl,rfl,rfl,fun id hi=>?_⟩;rcases hi with ⟨y,y1,y2⟩ | ⟨y,y1,y2⟩
    . obtain ⟨j,hj⟩:=zy33 y1
      by_cases e:(zdh s).toNat=j
      . rw [e] at hm
        rw [hm] at hj;cases hj;exact .inr ⟨⟨s.next,m.id,0,0,0,0,m.came,m.message.life,m.message.tries,cut s m (many s m)⟩,zy144 _ zz3,y2⟩
      . refine .inl ⟨y,?_,y2⟩
        show y∈(if decide (m.sent+many s m=m.message.data.length) then s.queue.eraseIdx (zdh s).toNat else s.queue.set (zdh s).toNat {m with mid:=zbt s m,sent:=m.sent+many s m,parts:=W (m.parts+1)});split
        . exact List.mem_eraseIdx_iff_getElem?.2 ⟨j,fun h=>e h.symm,hj⟩
        . exact zy5 (i:=j) (by rw [zy29 e];exact hj)
    . exact .inr ⟨y,zy67 _ y1,y2⟩
theorem ypp:∀ (n:Nat) (p:zfs),Kp p.s (zga n p).s
 | 0,p=>Kp.rfl' _
 | n+1,p=>by
  unfold zga;split
  . exact Kp.rfl' _
  . rename_i q hq;exact (xje hq).trans (ypp n q)
theorem yry (p:zfs):Kp p.s (forward p).s:=by unfold forward;split<;>exact ⟨rfl,rfl,rfl,fun _ h=>h⟩
theorem ydo {s:zab} (h:expire s=s):Kp s (zfc s).1:=by
 refine Kp.trans (t:=(zho s).s) ?_ ⟨rfl,rfl,rfl,fun _ h=>h⟩;unfold zho;rw [h];refine Kp.trans ?_ (ypp _ _);unfold again;exact (yry ⟨s,List.replicate s.paths.length []⟩).trans (yeu _ _ _)
structure FX (c:Config) (n d:Nat) (s:zab):Prop where
 cfg:s.config=c
 len:s.fates.length=n
 ft:∀ f∈s.fates,1<=f/\f<=3
 gone:∀ id:Nat,s.fates[id]?=some 3->id<d
 three:∀ id:Nat,id<d->s.fates[id]?=some 3
 has:∀ id:Nat,s.fates[id]?=some 1->Has s id
section
variable {c:Config} {n d:Nat} {s:zab}
theorem FX.keep {t:zab} (h:FX c n d s) (k:Kp s t):FX c n d t:=⟨k.cfg.trans h.cfg,by rw [k.fates];exact h.len,by rw [k.fates];exact h.ft,by rw [k.fates];exact h.gone,by rw [k.fates];exact h.three,fun id hi=>k.ids id (h.has id (by rw [<- k.fates];exact hi))⟩
theorem yse (s:zab) (c:Chunk):(zjo s c).clock=s.clock:=by
 unfold zjo;split
 . rfl
 split
 . rfl
 rw [zil];show (zej _ _).clock=_;have h2:∀ b u,(zej b u).clock=u.clock:=fun b u=>by unfold zej;split<;>rfl
 have h3:∀ p t L,(zge p t L).clock=t.clock:=fun p t L=>by
  unfold zge;split
  . rfl
  . split<;>rfl
 rw [h2,h3];rfl
theorem yix (s:zab) (id:Nat) {f:Int} (h:1<=f/\f<=3):1<=settled s id f/\settled s id f<=3:=by
 unfold settled
 repeat' split
 all_goals omega
theorem ydz {s:zab} {id:Nat} {f:Int} (h:settled s id f=3):f=3:=by
 unfold settled at h;split at h
 . cases h
 . exact h
theorem ytd {s:zab} {id:Nat} {f:Int} (h:settled s id f=1):Has s id:=by
 unfold settled at h;split at h
 . cases h
 . rename_i c
   subst h;apply Classical.byContradiction;intro hn;refine c ⟨rfl,?_,?_⟩
   . rw [zy114]
     intro m hm e;exact hn (.inl ⟨m,hm,zy39 e⟩)
   . rw [zy114]
     intro x hx e;exact hn (.inr ⟨x,hx,zy39 (GM.zda e)⟩)
theorem xik (h:FX c n d s) (ch:Chunk):FX c n d (zjo s ch):=by
 have hcfg:=xcd s ch;unfold zjo at hcfg ⊢;split
 . exact h
 split
 . exact h
 rename_i c1 c2;rw [zy0 c1,zy0 c2] at hcfg;rw [zil] at hcfg ⊢;generalize hu:zej (decide ((Sco.zex s.out s.cum ch s.paths.length).2.1>s.cum)) (zge s.config.part (zfd s ch (Sco.zex s.out s.cum ch s.paths.length)) (Sco.zex s.out s.cum ch s.paths.length).2.2.2)=u;have huf:u.fates=s.fates:=by
  rw [<- hu];have hT:∀ p l,(zge p (zfd s ch (Sco.zex s.out s.cum ch s.paths.length)) l).fates=s.fates:=fun p l=>by
   unfold zge;split
   . rfl
   . split<;>rfl
  have hV:∀ b u,(zej b u).fates=u.fates:=fun b u=>by unfold zej;split<;>rfl
  rw [hV,hT]
 have hf:(Snd.settle u).fates=s.fates.mapIdx fun id f=>settled u id f:=by rw [<- huf];rfl
 rw [hu] at hcfg;refine ⟨hcfg.trans h.cfg,by rw [hf,zy77];exact h.len,fun f hm=>?_,fun id hi=>?_,fun id hi=>?_,fun id hi=>?_⟩
 case refine_3 =>
  have h3:=h.three id hi;rw [hf,zy47,h3];show some (settled u id 3)=some 3;rw [settled,zy0 (by rintro ⟨e,-⟩;cases e)]
 . rw [hf] at hm
   obtain ⟨i,hi⟩:=zy33 hm;rw [zy47] at hi;cases hg:s.fates[i]? with
   | none=>rw [hg] at hi;cases hi
   | some g=>rw [hg] at hi;cases hi;exact yix _ _ (h.ft g (zy5 hg))
 . rw [hf,zy47] at hi
   cases hg:s.fates[id]? with
   | none=>rw [hg] at hi;cases hi
   | some g =>
    rw [hg] at hi;have hi:settled u id g=3:=by simpa using hi
    rw [ydz hi] at hg;exact h.gone id hg
 . rw [hf,zy47] at hi
   cases hg:s.fates[id]? with
   | none=>rw [hg] at hi;cases hi
   | some g =>
    rw [hg] at hi;have hi:settled u id g=1:=by simpa using hi
    have:=ytd hi;exact this
theorem yxh (part:Int) (s:zab) (i:Nat):(zdy part s i).config=s.config/\(zdy part s i).clock=s.clock/\(zdy part s i).fates=s.fates/\∀ id,Has s id->Has (zdy part s i) id:=by
 have e:∀ x,(Sco.late i x).id=x.id:=fun x=>by unfold Sco.late;split<;>rfl
 unfold zdy;split
 . exact ⟨rfl,rfl,rfl,fun _ h=>h⟩
 split
 . exact ⟨rfl,rfl,rfl,fun _ h=>h⟩
 dsimp only;split
 . exact ⟨rfl,rfl,rfl,fun id h=>h.imp (fun h=>h) fun ⟨y,y1,y2⟩=>⟨Sco.late i y,zy23.2 ⟨y,y1,rfl⟩,(e y).trans y2⟩⟩
 . exact ⟨rfl,rfl,rfl,fun id h=>h.imp (fun h=>h) fun ⟨y,y1,y2⟩=>⟨Sco.late i y,zy23.2 ⟨y,y1,rfl⟩,(e y).trans y2⟩⟩
theorem zqc (part:Int):∀ (l:List Nat) (s:zab),Kp s (l.foldl (zdy part) s)
 | [],s=>Kp.rfl' s
 | i::l,s=>by
  rw [zy35];have:=yxh part s i;exact Kp.trans ⟨this.1,this.2.1,this.2.2.1,this.2.2.2⟩ (zqc part l _)
theorem ymp (h:FX c n d s):FX c n d (tick s):=FX.keep (s:={s with clock:=W (s.clock+1)}) ⟨h.cfg,h.len,h.ft,h.gone,h.three,h.has⟩ (zqc _ _ _)
theorem zso (s:zab):(tick s).clock=W (s.clock+1):=(zqc _ _ {s with clock:=W (s.clock+1)}).clock
theorem xkc (h:FX c n d s) (m:Message):FX c (n+1) d (zgb s m):=by
 refine ⟨h.cfg,by show (s.fates++[1]).length=_;rw [zy4,h.len];rfl,fun f hf=>?_,fun id hi=>?_,fun id hi=>?_,fun id hi=>?_⟩
 case refine_3 =>
  have h3:=h.three id hi;show (s.fates++[1])[id]?=some 3;rw [zy26 (Gh.zci h3)];exact h3
 . rcases zy10.1 (show f∈s.fates++[1] from hf) with hf | hf
   . exact h.ft f hf
   . rw [zy7] at hf;subst hf;decide
 . rcases Gh.zei (show (s.fates++[1])[id]?=some 3 from hi) with hi | ⟨-,hi⟩
   . exact h.gone id hi
   . cases hi
 . rcases Gh.zei (show (s.fates++[1])[id]?=some 1 from hi) with hi | ⟨hi,-⟩
   . exact (h.has id hi).imp (fun ⟨y,y1,y2⟩=>⟨y,zy67 _ y1,y2⟩) fun h=>h
   . exact .inl ⟨⟨s.fates.length,-1,s.clock,0,0,m⟩,zy144 _ zz3,by show (s.fates.length:Int)=id;omega⟩
theorem FX.all (h:FX c n d s) (hq:s.queue=[]) (ho:s.out=[]) {id:Nat} (h1:d<=id) (h2:id<n):s.fates[id]?=some 2:=by
 obtain ⟨f,hf⟩:∃ f,s.fates[id]?=some f:=⟨_,zy2 (by rw [h.len];exact h2)⟩
 have h3:=h.ft f (zy5 hf);rw [hf];by_cases e1:f=1
 . subst e1
   rcases h.has id hf with ⟨y,y1,-⟩ | ⟨y,y1,-⟩
   . rw [hq] at y1;cases y1
   . rw [ho] at y1;cases y1
 . by_cases e3:f=3
   . subst e3
     have:=h.gone id hf;omega
   . congr 1;omega
end
structure LX (E:List Int) (c:Config) (n d:Nat) (k:Int) (N h S:Nat) (f T:Int) (P:Nat) (Cs:List CH) (l:zdi) (g:GM):Prop where
 lr:LR E N h S f T P Cs l g
 fx:FX c n d l.sender
 clock:l.sender.clock=k
 hT:k<=T
section
variable {E:List Int} {c:Config} {n d N h S:Nat} {k f T:Int} {P:Nat} {Cs:List CH} {l:zdi} {g:GM}
theorem xhp {l:zdi} (hx:expire l.sender=l.sender) (fx:FX c n d l.sender):FX c n d (emit l).sender/\(emit l).sender.clock=l.sender.clock:=⟨fx.keep (ydo hx),(ydo hx).clock⟩
theorem zvz (r:LX E c n d k N h S f T P Cs l g) (hok:(GM.zfc g).ok=true):LX E c n d k N h S f T P Cs (emit l) (GM.zfc g):=by
 obtain ⟨e1,e2⟩:=xhp (r.lr.sr.expire zz89) r.fx;exact ⟨xhq r.lr zz89 hok,e1,e2.trans r.clock,r.hT⟩
theorem xhj (r:LX E c n d k N h S f T P Cs l g) (hw:g.way≠[]) (hok:(GM.zfm h g).ok=true):LX E c n d k N h S f T P Cs (doS l (stp 2)).1 (GM.zfm h g):=by
 obtain ⟨l1,g1,e1,e2,e3,e4⟩:=xhi r.lr hw hok;rw [e2] at hok ⊢;rw [e1];refine zvz ⟨e3,?_,?_,r.hT⟩ hok
 . rcases e4 with e4 | ⟨c,e4⟩
   . rw [e4];exact r.fx
   . rw [e4];exact xik r.fx c
 . rcases e4 with e4 | ⟨c,e4⟩
   . rw [e4];exact r.clock
   . rw [e4,yse];exact r.clock
theorem xhn (r:LX E c n d k N h S f T P Cs l g) (hw:g.way≠[]) (hok:(GM.drop g).ok=true):LX E c n d k N h S f T P Cs (doS l (stp 3)).1 (GM.drop g):=by
 obtain ⟨l1,g1,e1,e2,e3,e4⟩:=yve r.lr hw;rw [e2] at hok ⊢;rw [e1];exact zvz ⟨e3,by rw [e4];exact r.fx,by rw [e4];exact r.clock,r.hT⟩ hok
theorem xam (r:LX E c n d k N h S f T P Cs l g) {two:Bool} (htwo:two=decide (P=2)) (hc:k+1<=T) (hw:two=true->g.way=[]) (hok:(GM.tick two g).ok=true):LX E c n d (k+1) N h S f T P Cs (doS l (stp 5)).1 (GM.tick two g):=by
 obtain ⟨l1,e1,e3,e4⟩:=ymq r.lr htwo (by rw [r.clock];have:=r.lr.sr.small;omega) hw (zhr (g:=GM.zib two g) hok);rw [e1];refine zvz ⟨e3,by rw [e4];exact ymp r.fx,?_,hc⟩ hok;have h0:=r.lr.sr.clk0;have h1:=r.lr.sr.small;rw [r.clock] at h0;rw [e4,zso,r.clock,zbg (by omega) (by omega)]
theorem LX.busy (r:LX E c n d k N h S f T P Cs l g):Ln.busy l=GM.busy g:=by
 have hq:l.sender.queue=[]↔g.todo=[]:=by
  have h1:=r.lr.sr.rest;exact yy58
 have ho:l.sender.out=[]↔g.out=[]:=by
  rw [<- zy49,<- zy49,r.lr.sr.len]
 have hw:l.way=[]↔g.way=[]:=by
  rw [<- zy49,<- zy49,r.lr.way.len]
 rw [xbe];unfold GM.busy;by_cases e:g.todo=[]/\g.out=[]/\g.way=[]
 . rw [hq.2 e.1,ho.2 e.2.1,hw.2 e.2.2,e.1,e.2.1,e.2.2];rfl
 . have h1:(g.todo.isEmpty&&g.out.isEmpty&&g.way.isEmpty)=false:=by
    cases hb:(g.todo.isEmpty&&g.out.isEmpty&&g.way.isEmpty) with
    | false=>rfl
    | true=>exact absurd ⟨zy119.1 (GM.zda (GM.zda hb)),zy119.1 (GM.zgy (GM.zda hb)),zy119.1 (GM.zgy hb)⟩ e
   rw [h1];refine zy12 ?_;apply Classical.byContradiction;intro hn;exact e ⟨hq.1 (zy49.1 zz0),ho.1 (zy49.1 zz0),hw.1 (zy49.1 zz0)⟩
theorem xbi (g:GM):g.way.length<=(GM.zfm h g).way.length+1:=by
 unfold GM.zfm;split
 . rename_i e;rw [e];exact zy92 _
 . rename_i m w e
   rw [zqh,e,zy4];show w.length+1<=(w++[_]).length+_+1;rw [zy4];omega
 . rename_i c w e
   rw [zqh,e,(ygk _ _).2.1,zy4];show w.length+1<=w.length+_+1;omega
theorem yng:∀ (m:Nat) {l:zdi} {g:GM},LX E c n d k N h S f T P Cs l g->m<=g.way.length->(GM.comes h m g).ok=true->LX E c n d k N h S f T P Cs (zpl m l) (GM.comes h m g)
 | 0,_,_,r,_,_=>r
 | m+1,l,g,r,hm,hok=>by
  have hok:(GM.comes h m (GM.zfm h g)).ok=true:=hok;have hlen:=xbi (h:=h) g;exact yng m (xhj r (fun e=>by rw [e] at hm;exact absurd hm zz3) (zvs m hok)) zz0 hok
theorem xef (r:LX E c n d k N h S f T P Cs l g) (hP:P=1) (hc:k+1<=T) (hok:(GM.round h g).ok=true):LX E c n d (k+1) N h S f T P Cs (Ln.round l) (GM.round h g):=by
 unfold GM.round at hok ⊢;unfold Ln.round;rw [r.lr.way.len];exact xam (yng _ r (zy19 _) (zqx hok)) (by rw [hP];rfl) hc (fun e=>by cases e) hok
theorem zxs:∀ (m:Nat) {k:Int} {l:zdi} {g:GM},LX E c n d k N h S f T P Cs l g->P=1->k+m<=T->GM.zeh (GM.settle h m g)=true->∃ k2,LX E c n d k2 N h S f T P Cs (zfb m l).1 (GM.settle h m g)
 | 0,k,_,_,r,_,_,_=>⟨k,r⟩
 | m+1,k,l,g,r,hP,hk,hok=>by
  have hok:GM.zeh (bif GM.busy g then GM.settle h m (GM.round h g) else g)=true:=hok;show ∃ k2,LX E c n d k2 N h S f T P Cs (zfb (m+1) l).1 (bif GM.busy g then GM.settle h m (GM.round h g) else g);cases hb:GM.busy g with
  | false =>
   rw [zsk (.inr (r.busy.trans hb))];exact ⟨k,r⟩
  | true =>
   rw [hb] at hok;rw [zlp (r.busy.trans hb)];exact zxs m (xef r hP zz0 (zsl m (GM.zda (GM.zda hok)))) hP (by push_cast at hk ⊢;omega) hok
theorem zqk {l:zdi} {m:Message} (he:zeu l.sender m=0):(doS l ⟨1,0,m⟩).1=emit {l with sender:=zgb l.sender m}:=by
 unfold doS;rw [zy1 rfl];show (if zeu l.sender m=0 then _ else _:zdi×Answer).1=_;rw [zy1 he]
theorem xkf (r:LX E c n d k N h S f T P Cs l g) {m:Message} {E':List Int} {Cs':List CH} {t:List Nat} (he:zeu l.sender m=0) (hN:N+1<=500) (cs:yuf h S f Cs') (htk:Cs'.take (g.a+g.out.length)=Cs.take (g.a+g.out.length)) (hlen:g.a+g.out.length<=Cs'.length)
 (hrest:rest (zgb l.sender m)=Cs'.drop (g.a+g.out.length)) (hend:zgo l.sender.mids (zmc l.sender.config.turns (zgb l.sender m).queue)=E') (ho:m.ordered=true) (hmt:m.tries=0) (hml:0<=m.life/\(m.life=0/\T=100000\/0<m.life/\k+m.life=T+1))
 (ht:t=(Cs'.drop (g.a+g.out.length)).map fun x=>x.data.length) (hok:(GM.zfc {g with todo:=t}).ok=true):LX E' c (n+1) d k (N+1) h S f T P Cs' (doS l ⟨1,0,m⟩).1 (GM.zfc {g with todo:=t}):=by
 rw [zqk he];obtain ⟨⟨si,few,sr,cs0,rr,way,codes,Rle,hle,alen⟩,fx,hk,hkT⟩:=r;have hget:∀ i,i<g.a+g.out.length->Cs'[i]?=Cs[i]?:=by
  intro i hi;have:=congrArg (fun z=>z[i]?) htk;simp only [zy53,zy1 hi] at this;exact this
 have hch:∀ c,(c % 2=0->c / 2<g.a+g.out.length)->zpf f Cs' c=zpf f Cs c:=by
  intro c hc;unfold zpf;by_cases e:c % 2=1
  . rw [zy1 e,zy1 e]
  . rw [zy0 e,zy0 e,hget _ (hc (by omega))]
 refine zvz ⟨⟨zxp si he zz0,hN,?_,cs,?_,?_,fun m' hm'=>?_,Rle,hle,hlen⟩,xkc fx m,hk,hkT⟩ hok
 . obtain ⟨a1,a2,a3,a4,a5,a6,a7,a8,a9,a10,a11,a12,a13,a14,a15,a16,a17,a18,a19,a20,a21⟩:=sr
   refine ⟨⟨a1.turns,a1.part,fun z hz=>?_,a1.mids,hend⟩,a2,a3,a4,a5,fun j x y hx hy=>?_,hrest,ht,cs.zeh,a10,a11,a12,a13,a14,a15,a16,a17,a18,a19,⟨a20.win,a20.slow,a20.par,a20.wait,a20.wait1,a20.errs,a20.al⟩,⟨fun z hz=>?_,fun z hz=>?_⟩⟩
   . rcases zy10.1 (show z∈l.sender.queue++[_] from hz) with hz | hz
     . exact a1.ord z hz
     . rw [zy7] at hz;subst hz;exact ho
   . obtain ⟨b1,b2,b3,b4,b5⟩:=a6 j x y hx hy
     refine ⟨b1,b2,fun h4=>?_,b4,b5⟩;obtain ⟨c,c1,c2⟩:=b3 h4;have hlt:g.a+j<g.a+g.out.length:=Nat.add_lt_add_left (Gh.zci (show g.out[j]?=some y from hy)) g.a;exact ⟨c,(hget _ hlt).trans c1,c2⟩
   . rcases zy10.1 (show z∈l.sender.queue++[_] from hz) with hz | hz
     . exact a21.queue z hz
     . rw [zy7] at hz
       subst hz;exact ⟨hmt,a15,by show l.sender.clock<=100000;omega,hml.1,by rcases hml.2 with h1 | h1;exact .inl h1;exact .inr ⟨h1.1,by show l.sender.clock+m.life=T+1;rw [hk];exact h1.2⟩⟩
   . rcases a21.out z hz with h1 | h1
     . left
       show (l.sender.fates++[1])[z.id.toNat]?=some 3;rw [zy26 (Gh.zci h1)];exact h1
     . exact .inr h1
 . refine ⟨rr.cum,by show g.R<=Cs'.length;omega,rr.ri.imp (fun h=>h) fun ⟨h1,h2⟩=>⟨h1,?_⟩⟩
   have e:(Cs'.drop h).take (g.R-h)=(Cs.drop h).take (g.R-h):=by
    rw [<- List.drop_take,<- List.drop_take];have:Cs'.take g.R=Cs.take g.R:=by
     have:=congrArg (List.take g.R) htk
     rwa [List.take_take,List.take_take,Nat.min_eq_left Rle] at this
    rw [this]
   show RI S ((RS.new h).run ((Cs'.drop h).take (g.R-h))).T _ _ _;rw [e];exact h2
 . refine way.imp fun p gp hgp hp=>?_
   cases gp with
   | zex c=>exact hp
   | data q =>
    obtain ⟨p1,p2,p3⟩:=hp;refine ⟨p1,p2,?_⟩;rw [p3];congr 1;refine zy89 fun c hc=>(hch c fun h2=>?_).symm
    exact ((codes q hgp).2 c hc h2).1
 . obtain ⟨c1,c2⟩:=codes m' hm'
   refine ⟨c1,fun c hc h2=>?_⟩;obtain ⟨c3,x,c4⟩:=c2 c hc h2;exact ⟨c3,x,by rw [hget _ c3];exact c4⟩
end
end Tp
namespace Tp
open Ser Snd Ln
def sm (k life:Int) (d:List UInt8):Message:=⟨k,true,life,0,d⟩
theorem yni {k mid:Nat}:∀ (n p:Nat) (d:List UInt8),(zif k mid n p d).map (fun x=>x.data.length)=GM.xpg n d.length
 | 0,_,_=>rfl
 | n+1,p,d=>by
  rw [zif,GM.xpg];by_cases c:d.length<=4
  . rw [zy1 c,zy69 c];rfl
  . rw [zy0 c,show Nat.ble d.length 4=false by cases hb:Nat.ble d.length 4 with | false=>rfl | true=>exact absurd (zy15 hb) c,zy27,yni n,zy37]
    show (d.take 4).length::_=4::_;rw [zy55,Nat.min_eq_left (by omega)]
theorem zpn {k mid:Nat} (hk:k<4) (hm:mid<60000):∀ (n p:Nat) (d:List UInt8),p+d.length<=255->1<=d.length->∀ x∈zif k mid n p d,x.xgo
 | 0,_,_,_,_,x,hx=>by cases hx
 | n+1,p,d,hp,hd,x,hx=>by
  rw [zif] at hx;split at hx
  . rename_i c
    rw [zy7] at hx;subst hx;exact ⟨hk,hm,by show p<=255;omega,hd,c⟩
  . rename_i c
    rcases zy18.1 hx with rfl | hx
    . refine ⟨hk,hm,by show p<=255;omega,?_,?_⟩
      . show 1<=(d.take 4).length
        rw [zy55];omega
      . show (d.take 4).length<=4
        rw [zy55];omega
    . exact zpn hk hm n (p+1) (d.drop 4) zz19 zz19 x hx
theorem zni {k mid:Nat}:∀ (n p:Nat) (d:List UInt8),(zif k mid n p d).length<=n
 | 0,_,_=>zy19 _
 | n+1,p,d=>by
  rw [zif];split
  . simp
  . rw [zy8];have:=zni (k:=k) (mid:=mid) n (p+1) (d.drop 4);omega
def ends (l:List CH):Nat:=(l.filter CH.last).length
theorem ynm (a b:List CH):ends (a++b)=ends a+ends b:=by unfold ends;rw [zy59,zy4]
theorem yfn (l:List CH) (i:Nat):ends (l.drop i)<=ends l:=by
 unfold ends;exact ((List.drop_sublist i l).filter _).length_le
theorem zpm {k mid:Nat}:∀ (n p:Nat) (d:List UInt8),d.length<=n->1<=d.length->ends (zif k mid n p d)=1
 | 0,_,_,h1,h2=>by omega
 | n+1,p,d,h1,h2=>by
  rw [zif];split
  . rfl
  . rename_i c
    have:=zpm (k:=k) (mid:=mid) n (p+1) (d.drop 4) zz19 zz19;exact this
theorem yaq:∀ {q:List zae} {mids:List Int},(∀ m∈q,0<=m.sent/\m.sent<m.message.data.length)->ends (zje mids q)=q.length
 | [],_,_=>rfl
 | m::q,mids,h=>by
  have:=h m zz3;rw [zje,ynm,yaq fun x hx=>h x (by simp [hx]),zpm _ _ _ (by rw [zy37];omega) zz19,zy8];omega
theorem xdi {q:List zae} {t:Int} (h:t=4->∀ m∈q,m.message.stream=0\/m.message.stream=1):(zmc t q).length=q.length:=by
 unfold zmc;split
 . rename_i c
   rw [zy4];replace h:=h c;clear c
   induction q with
   | nil=>rfl
   | cons m q ih =>
    have:=ih fun x hx=>h x zz28
    rw [zy64,zy64,zy8];rcases h m zz3 with e | e
    . rw [zy1 (by simp [e]),zy0 (by simp [e]),zy8];omega
    . rw [zy0 (by simp [e]),zy1 (by simp [e]),zy8];omega
 . rfl
theorem xdj {q:List zae} {t:Int} {m:zae} (h:m∈zmc t q):m∈q:=by
 unfold zmc at h;split at h
 . rcases zy10.1 h with h | h
   . exact (zy54.1 h).1
   . exact (zy54.1 h).1
 . exact h
theorem yrf {E:List Int} {N:Nat} {s:zab} (h:SI N s) (hc:QC E s):s.queue.length=ends (rest s):=by
 have hw:=zca h.cfg;unfold rest;rw [yaq,xdi]
 . intro ht m hm
   have q:=h.queue m hm;have:=q.st0;have:=q.st1;rcases hc.turns with e | ⟨-,e⟩
   . omega
   . omega
 . intro m hm
   have q:=h.queue m (xdj hm);have q1:=q.sent;have q2:=q.parts;have q3:=q.left;rw [hc.part] at q1;omega
def RS.done (st:RS) (k:Nat) (d:List UInt8):RS:=⟨at1 st.T k (st.T k+1),at1 st.U k [],st.lg++[⟨k,st.T k,true,(st.U k).flatten++d⟩]⟩
theorem xgz {α:Type} (F:Nat->α) (k:Nat) (x y:α):at1 (at1 F k x) k y=at1 F k y:=by
 funext j
 unfold at1;split<;>rfl
theorem zuf {α:Type} (F:Nat->α) (k:Nat) (x:α):at1 F k x k=x:=zy1 rfl
theorem yjo {st:RS} {k mid p:Nat} {d:List UInt8}:st.step ⟨k,mid,p,true,d⟩=st.done k d:=by
 unfold RS.step RS.done;rw [zy1 rfl];dsimp only;rw [zy82];simp
theorem step_done {st:RS} {k mid p:Nat} {d:List UInt8}:(st.step ⟨k,mid,p,false,d.take 4⟩).done k (d.drop 4)=st.done k d:=by
 unfold RS.step RS.done;rw [zy0 (show ¬ (false=true) by decide)];dsimp only;rw [xgz,zuf,zy82,zy24];simp
theorem ymb {k mid:Nat}:∀ (n p:Nat) (d:List UInt8) (st:RS),d.length<=n->1<=d.length->st.run (zif k mid n p d)=st.done k d
 | 0,_,_,_,h1,h2=>by omega
 | n+1,p,d,st,h1,h2=>by
  rw [zif];split
  . exact yjo
  . have:=ymb (k:=k) (mid:=mid) n (p+1) (d.drop 4) (st.step ⟨k,mid,p,false,d.take 4⟩) zz19 zz19
    rw [step_done] at this;exact this
theorem yoi {S k mid:Nat} (hk:k<S):∀ (n p:Nat) (d:List UInt8) (st:RS) (r:List CH),d.length<=n->1<=d.length->st.T k=mid->(st.U k).length=p->mid<1000->zua (st.U k)+d.length<=60->zwk S (st.done k d) r->zwk S st (zif k mid n p d++r)
 | 0,_,_,_,_,h1,h2,_,_,_,_,_=>by omega
 | n+1,p,d,st,r,h1,h2,h3,h4,h5,h6,h7=>by
  rw [zif];split
  . refine ⟨hk,h3.symm,h4.symm,by show st.T k<1000;omega,h6,?_⟩
    show zwk S (st.step ⟨k,mid,p,true,d⟩) r;rw [yjo];exact h7
  . have ht:(d.take 4).length=4:=by rw [zy55];omega
    refine ⟨hk,h3.symm,h4.symm,by show st.T k<1000;omega,by show zua (st.U k)+(d.take 4).length<=60;omega,?_⟩;show zwk S (st.step ⟨k,mid,p,false,d.take 4⟩) (zif k mid n (p+1) (d.drop 4)++r);have e1:(st.step ⟨k,mid,p,false,d.take 4⟩).U k=st.U k++[d.take 4]:=zuf _ _ _;refine yoi hk n (p+1) (d.drop 4) _ r zz19 zz19 h3 (by rw [e1,zy4,h4];rfl) h5 ?_ (by rw [step_done];exact h7);rw [e1,zy37];unfold zua at h6 ⊢;rw [zy40,List.sum_append,zy27,zy87,zy103,zy158,ht];omega
theorem xka (st:RS) (a b:List CH):st.run (a++b)=(st.run a).run b:=zy84 ..
theorem yij:∀ (q:List zae) (mids:List Int) (x:List zae),zje mids (q++x)=zje mids q++zje (zgo mids q) x
 | [],_,_=>rfl
 | m::q,mids,x=>by rw [zy43,zje,zje,yij q,zgo,zy24]
theorem yhh:∀ (q:List zae) (mids:List Int) (x:List zae),zgo mids (q++x)=zgo (zgo mids q) x
 | [],_,_=>rfl
 | m::q,mids,x=>by rw [zy43,zgo,yhh q,zgo]
def yxu (E:List Int) (k:Nat):List Int:=setAt E k fun n=>W (n+1)
theorem yqf {mids:List Int} {id came:Int} {m:Message}:zje mids [⟨id,-1,came,0,0,m⟩]=zif m.stream.toNat (mids[m.stream.toNat]?.getD 0).toNat m.data.length 0 m.data/\zgo mids [⟨id,-1,came,0,0,m⟩]=yxu mids m.stream.toNat:=by
 refine ⟨?_,?_⟩
 . rw [zje,zje,zy9]
   unfold xfu;rw [zy1 (show (-1:Int)<0 by decide)];rfl
 . rw [zgo,zgo]
   unfold zyw;rw [zy1 (show (-1:Int)<0 by decide)];rfl
theorem yyz {E:List Int} {s:zab} (ht:s.config.turns=1) (hE:zgo s.mids (zmc s.config.turns s.queue)=E) (m:Message) :
 rest (zgb s m)=rest s++zif m.stream.toNat (E[m.stream.toNat]?.getD 0).toNat m.data.length 0 m.data/\zgo s.mids (zmc s.config.turns (zgb s m).queue)=yxu E m.stream.toNat:=by
 have ho:∀ q,zmc s.config.turns q=q:=fun q=>by unfold zmc;rw [zy0 (by rw [ht];decide)]
 rw [ho] at hE;unfold rest;show zje s.mids (zmc s.config.turns (zgb s m).queue)=_/\_;rw [ho,ho];show zje s.mids (s.queue++[_])=_/\zgo s.mids (s.queue++[_])=_;rw [yij,yhh,hE];exact ⟨by rw [yqf.1],yqf.2⟩
section
variable {E:List Int} {c:Config} {n d N h S:Nat} {k f T:Int} {P:Nat} {Cs:List CH} {l:zdi} {g:GM}
theorem ydw (r:LX E c n d k N h S f T P Cs l g) {st:Nat} {life:Int} {D:List UInt8} (ht:c.turns=1) (hs:(st:Int)<c.streams) (hl:0<=life/\life<=1000/\(life=0/\T=100000\/0<life/\k+life=T+1)) (hD:1<=D.length/\D.length<=60) (hw:ends Cs<c.waiting) (hN:N+1<=500) {mid:Nat} (hm:E[st]?.getD 0=mid)
 (cs:yuf h S f (Cs++zif st mid D.length 0 D)) (hok:(GM.send g (GM.cut D.length)).ok=true):LX (yxu E st) c (n+1) d k (N+1) h S f T P (Cs++zif st mid D.length 0 D) (doS l ⟨1,0,sm st life D⟩).1 (GM.send g (GM.cut D.length)):=by
 have hc:=r.fx.cfg;have hfew:=yrf r.lr.si r.lr.sr.qc;rw [r.lr.sr.rest] at hfew;have hdrop:=yfn Cs (g.a+g.out.length);obtain ⟨e1,e2⟩:=yyz (by rw [hc];exact ht) r.lr.sr.qc.ends (sm st life D);have hst:(sm st life D).stream.toNat=st:=by show ((st:Nat):Int).toNat=st;omega
 rw [hst,hm,show ((mid:Nat):Int).toNat=mid by omega] at e1;rw [hst] at e2;have halen:=r.lr.alen;unfold GM.send at hok ⊢;refine xkf r ?_ hN cs (by rw [zy79 halen]) (by rw [zy4];omega) ?_ e2 rfl rfl ⟨hl.1,hl.2.2⟩ ?_ hok
 . unfold zeu
   rw [zy0,zy0,zy0]
   . rw [hc];omega
   . show ¬ (D.length<1\/D.length>60);omega
   . show ¬ ((st:Int)<0\/(st:Int)>=l.sender.config.streams\/life<0\/life>1000\/(0:Int)<0\/(0:Int)>1000)
     rw [hc];omega
 . rw [e1,r.lr.sr.rest,zy115 halen];rfl
 . rw [zy115 halen,zy40,<- r.lr.sr.todo,yni];rfl
theorem xfv {c:Config} (hwr:zob c=0) (h1:c.turns=1\/c.turns=4/\c.streams=2) (h2:c.part=4) (h3:c.packet=60) {P S:Nat} (h4:c.paths=P) (h5:c.streams=S) (h6:S=1\/S=2) {T:Int} (hT:0<=T/\T<=100000) :
 LX (List.replicate (2*c.streams).toNat 0) c 0 0 0 0 0 S c.first T P [] (zic c) (GM.new []):=by
 obtain ⟨w1,w2,w3,w4,w5,w6,w7,w8,w9,w10,w11,w12,w13,w14⟩:=zca hwr;have hsi:=xfw hwr;refine ⟨⟨hsi,by decide,?_,?_,?_,.nil,fun m hm=>(by cases hm),zy19 _,zy19 _,zy19 _⟩,⟨rfl,rfl,fun f hf=>(by cases hf),fun id hi=>(by cases hi),fun id hi=>absurd hi (Nat.not_lt_zero _),fun id hi=>(by cases hi)⟩,rfl,hT.1⟩
 . refine ⟨⟨h1,h2,fun m hm=>(by cases hm),fun n hn=>?_,?_⟩,h3,?_,?_,rfl,fun j x y hx hy=>(by cases hx),?_,rfl,fun x hx=>(by cases hx),?_,fun i p hi hp=>?_,fun _=>show 0<=3 by decide,rfl,show (280:Int)<=400 by decide,zy80 _,show (0:Int)<=100000 by decide,hT.2,w11,w12,⟨by decide,by decide,by decide,by decide,by decide,by decide,by decide⟩,⟨fun m hm=>(by cases hm),fun x hx=>(by cases hx)⟩⟩
   . have:=zy51 (show n∈List.replicate (2*c.streams).toNat (0:Int) from hn)
     omega
   . show zgo (List.replicate (2*c.streams).toNat 0) (zmc c.turns [])=_
     unfold zmc;split<;>rfl
   . show (List.replicate c.paths.toNat (Paths.new c.part)).length=P
     rw [zy57];omega
   . show c.first-1=c.first-1+((0:Nat):Int);omega
   . show zje _ (zmc c.turns [])=_
     unfold zmc;split<;>rfl
   . show (List.replicate c.paths.toNat (Paths.new c.part))[0]?=_
     rw [zy73,zy1 (by omega),h2];rfl
   . have hp:(List.replicate c.paths.toNat (Paths.new c.part))[i]?=some p:=hp
     have:=zy51 (zy5 hp);rw [h2] at this;subst this;exact ⟨rfl,rfl,fun h=>by (have h:i<0:=h);omega,fun _=>rfl⟩
 . exact ⟨by decide,fun x hx=>(by cases hx),w11,w12,trivial,.inl rfl,h6,zy19 _⟩
 . exact ⟨by show c.first-1=c.first-1+((0:Nat):Int);omega,zy19 _,.inr ⟨zy19 _,xmy h5⟩⟩
end
end Tp
namespace Tp
namespace GM
noncomputable def yqn (n:Nat):Nat->GM
 | 0=>new []
 | t+1=>send (yqn n t) (cut n)
noncomputable def xgh (n t:Nat):GM:=settle 0 400 (yqn n t)
end GM
end Tp
namespace Tp
namespace GM
end GM
end Tp
namespace Tp
namespace GM
end GM
end Tp
namespace Tp
namespace GM
end GM
end Tp
namespace Tp
namespace GM
end GM
end Tp
namespace Tp
namespace GM
end GM
end Tp
namespace Tp
namespace GM
end GM
end Tp
namespace Tp
namespace GM
end GM
end Tp
namespace Tp
namespace GM
end GM
end Tp
namespace Tp
namespace GM
end GM
end Tp
namespace Tp
namespace GM
end GM
end Tp
namespace Tp
open Ser Snd Ln
section
variable {E:List Int} {c:Config} {n d N h S:Nat} {k f T:Int} {P:Nat} {Cs:List CH} {l:zdi} {g:GM}
theorem LX.log (r:LX E c n d k N h S f T P Cs l g) (h1:g.todo=[]) (h2:g.out=[]) (h3:g.R=g.a):l.receiver.log=((RS.new h).run (Cs.drop h)).lg/\l.sender.queue=[]/\l.sender.out=[]:=by
 have htd:=r.lr.sr.todo;rw [h1] at htd;have hz:=zy150.1 htd.symm;have hle:Cs.length<=g.a+g.out.length:=List.drop_eq_nil_iff.1 hz;have hal:=r.lr.alen;rw [h2,zy16] at hle hal;have hR:g.R=Cs.length:=by omega
 refine ⟨?_,zqj r.lr.si r.lr.sr.qc (by rw [r.lr.sr.rest,hz]),zy49.1 (by rw [r.lr.sr.len,h2];rfl)⟩;have hl:=r.lr.cs.hl;rcases r.lr.rr.ri with ⟨e1,e2,-⟩ | ⟨-,e⟩
 . omega
 . have:=e.log
   rw [this,hR,zy34 (by rw [zy37];omega)]
theorem yod (h:GM.zeh g=true):g.ok=true/\g.todo=[]/\g.out=[]/\g.way=[]/\g.R=g.a:=by
 have h1:=GM.zda h;have h2:=GM.zgy h1;unfold GM.busy at h2;rw [Bool.not_not] at h2;exact ⟨GM.zda h1,zy119.1 (GM.zda (GM.zda h2)),zy119.1 (GM.zgy (GM.zda h2)),zy119.1 (GM.zgy h2),zy6 (GM.zgy h)⟩
theorem yvp {m:Nat} (hf:GM.zeh (GM.settle h m g)=true):g.ok=true:=zsl m (GM.zda (GM.zda hf))
theorem yqm {t:List Nat} (h:(GM.send g t).ok=true):g.ok=true:=by
 have:=zhr h;exact this
end
theorem yoh {S:Nat}:∀ {a b:List CH} {st:RS},zwk S st a->zwk S (st.run a) b->zwk S st (a++b)
 | [],_,_,_,h=>h
 | _::_,_,_,h,k=>⟨h.1,h.2.1,h.2.2.1,h.2.2.2.1,h.2.2.2.2.1,yoh h.2.2.2.2.2 k⟩
theorem ycm {S k mid:Nat} (hk:k<S) {d:List UInt8} {st:RS} (hd:1<=d.length/\d.length<=60) (h1:st.T k=mid) (h2:st.U k=[]) (h3:mid<1000):zwk S st (zif k mid d.length 0 d):=by
 have:=yoi hk d.length 0 d st [] (zy19 _) hd.1 h1 (by rw [h2];rfl) h3 (by rw [h2];show 0+d.length<=60;omega) trivial
 rwa [zy9] at this
theorem xnn {s:zab} {st life:Int} {D:List UInt8} (h1:0<=st/\st<s.config.streams) (hl:0<=life/\life<=1000) (hD:1<=D.length/\D.length<=60) (hq:(s.queue.length:Int)<s.config.waiting):zeu s (sm st life D)=0:=by
 unfold zeu;rw [zy0,zy0,zy0]
 . omega
 . show ¬ (D.length<1\/D.length>60);omega
 . show ¬ (st<0\/st>=s.config.streams\/life<0\/life>1000\/(0:Int)<0\/(0:Int)>1000)
   omega
theorem xnb {S k mid:Nat} {f:Int} {D:List UInt8} (hk:k<S) (hS:S=1\/S=2) (hD:1<=D.length/\D.length<=60) (hf:0<=f/\f<65536) (hm:mid=0):yuf 0 S f (zif k mid D.length 0 D):=by
 subst hm;refine ⟨by have:=zni (k:=k) (mid:=0) D.length 0 D;omega,zpn (by omega) (by decide) _ _ _ (by omega) hD.1,hf.1,hf.2,?_,.inl rfl,hS,zy92 _⟩;exact ycm hk hD rfl rfl zz5
def zkg (first:Int):Config:=⟨1,4,60,1,1,12,first⟩
def csR (D:List UInt8):Nat->List CH
 | 0=>[]
 | t+1=>csR D t++zif 0 t D.length 0 D
def yxl (first:Int) (D:List UInt8):Nat->zdi
 | 0=>zic (zkg first)
 | t+1=>(doS (yxl first D t) ⟨1,0,sm 0 0 D⟩).1
theorem ynh {D:List UInt8} (hD:1<=D.length/\D.length<=60) {first:Int} (hf:0<=first/\first<65536):∀ t,t<=12->yuf 0 1 first (csR D t)/\ends (csR D t)=t/\(csR D t).length<=60*t/\((RS.new 0).run (csR D t)).T 0=t/\((RS.new 0).run (csR D t)).U 0=[]/\((RS.new 0).run (csR D t)).lg=(List.range t).map fun j=>⟨0,(j:Int),true,D⟩
 | 0,_=>⟨⟨show 0<=1000 by decide,fun x hx=>(by cases hx),hf.1,hf.2,trivial,.inl rfl,.inl rfl,zy19 _⟩,rfl,zy19 _,rfl,rfl,rfl⟩
 | t+1,ht=>by
  obtain ⟨h1,h2,h3,h4,h5,h6⟩:=ynh hD hf t (by omega);have hl:=zni (k:=0) (mid:=t) D.length 0 D;have zen:(RS.new 0).run (csR D (t+1))=((RS.new 0).run (csR D t)).done 0 D:=by
   show (RS.new 0).run (csR D t++_)=_;rw [xka,ymb _ _ _ _ (zy19 _) hD.1]
  refine ⟨⟨?_,fun x hx=>?_,hf.1,hf.2,?_,.inl rfl,.inl rfl,zy92 _⟩,?_,?_,?_,?_,?_⟩
  . show (csR D t++_).length<=1000
    rw [zy4];omega
  . rcases zy10.1 (show x∈csR D t++_ from hx) with hx | hx
    . exact h1.zeh x hx
    . exact zpn (by decide) (by omega) _ _ _ (by omega) hD.1 x hx
  . exact yoh h1.zwk (ycm (by decide) hD h4 h5 (by omega))
  . show ends (csR D t++_)=_
    rw [ynm,h2,zpm _ _ _ (zy19 _) hD.1]
  . show (csR D t++_).length<=_
    rw [zy4];omega
  . rw [zen]
    show at1 ((RS.new 0).run (csR D t)).T 0 (((RS.new 0).run (csR D t)).T 0+1) 0=t+1;rw [zuf,h4]
  . rw [zen]
    show at1 ((RS.new 0).run (csR D t)).U 0 [] 0=[];exact zuf _ _ _
  . rw [zen]
    show ((RS.new 0).run (csR D t)).lg++[⟨0,((((RS.new 0).run (csR D t)).T 0:Nat):Int),true,(((RS.new 0).run (csR D t)).U 0).flatten++D⟩]=_;rw [h4,h5,h6,List.range_succ,zy40];rfl
theorem zxm {D:List UInt8} (hD:1<=D.length/\D.length<=60) {first:Int} (hf:0<=first/\first<65536):∀ t,t<=12->(GM.yqn D.length t).ok=true->LX [(t:Int),0] (zkg first) t 0 0 t 0 1 first 100000 1 (csR D t) (yxl first D t) (GM.yqn D.length t)
 | 0,_,_=>xfv (c:=zkg first) (by
  unfold zob zkg;dsimp only;rw [zy0 (by omega),zy0 (by decide)]) (.inl rfl) rfl rfl rfl rfl (.inl rfl) ⟨by decide,by decide⟩
 | t+1,ht,hok=>by
  have ih:=zxm hD hf t (by omega) (yqm hok);have:=ydw ih (st:=0) (life:=0) (D:=D) (mid:=t) rfl (show (0:Int)<1 by decide) ⟨by decide,by decide,.inl ⟨rfl,rfl⟩⟩ hD (by rw [(ynh hD hf t (by omega)).2.1];show ((t:Nat):Int)<12;omega) zz0 rfl (ynh hD hf (t+1) ht).1 hok;have e:yxu [(t:Int),0] 0=[((t+1:Nat):Int),0]:=by
   show [W ((t:Int)+1),0]=_;rw [zbg (by omega) (by omega)];rfl
  rw [e] at this;exact this
theorem yik {D:List UInt8} (hD:1<=D.length/\D.length<=60) {first:Int} (hf:0<=first/\first<65536) {t:Nat} (ht:1<=t/\t<=12) (hev:GM.zeh (GM.xgh D.length t)=true):(zfb 400 (yxl first D t)).1.receiver.log=(List.range t).map fun j=>⟨0,(j:Int),true,D⟩:=by
 unfold GM.xgh at hev;have r:=zxm hD hf t ht.2 (yvp hev);obtain ⟨k2,r3⟩:=zxs 400 r rfl zz5 hev;obtain ⟨f1,f2,f3,f4,f5⟩:=yod hev;rw [(r3.log f2 f3 f5).1];exact (ynh hD hf t ht.2).2.2.2.2.2
theorem zvt {k mid:Nat}:∀ (n p:Nat) (d:List UInt8),∀ x∈zif k mid n p d,x.stream=k
 | 0,_,_,x,hx=>by cases hx
 | n+1,p,d,x,hx=>by
  rw [zif] at hx;split at hx
  . rw [zy7] at hx;subst hx;rfl
  . rcases zy18.1 hx with rfl | hx
    . rfl
    . exact zvt n (p+1) (d.drop 4) x hx
end Tp
namespace Tp
open Ser Snd Ln
def xlp (s:ByteArray):HV:=.p (.v (.string s))
def bs (s:ByteArray):List UInt8:=s.data.toList
def stm (k life:Int) (s:ByteArray):Step:=⟨1,0,sm k life (bs s)⟩
theorem yna (s:ByteArray):(bs s).length=s.size:=by cases s;exact zy148
theorem xhd (s:ByteArray):(⟨(bs s).toArray⟩:ByteArray)=s:=by unfold bs;cases s;simp
theorem zxv (st tu:Int):zao Tryz.prog 22 [i64 st,i64 tu] zaf (⟨st,4,60,1,tu,12,65530⟩:Config).hv zaf:=by
 refine zap mixed Tryz.func22 zz5 ?_;(conv=>whnf)
 rfl
theorem zmz (k life:Int) (s:ByteArray) (hs:s.size<=60):zao Tryz.prog 23 [i64 k,xlp s,i64 life] zaf (stm k life s).hv zaf:=by
 refine zap mixed Tryz.func23 zz5 ?_;(conv=>whnf);refine zaa (c:=s.size<=maxLen) (by unfold maxLen;omega) (zw ?_)
 rfl
theorem yaz (s:ByteArray):zao Tryz.prog 25 [xlp s] zaf (zbm (decide (1<=s.size/\s.size<=60))) zaf:=by
 refine zap mixed Tryz.func25 zz5 ?_;(conv=>whnf);by_cases h1:1<=s.size
 . refine zai (zy12 (by show (0:Int)<(s.size:Int);omega)) (zw ?_)
   by_cases h2:s.size<=60
   . rw [show decide (1<=s.size/\s.size<=60)=true from zy12 ⟨h1,h2⟩,show decide ((s.size:Int)<=60)=true from zy12 (by omega)]
   . rw [show decide (1<=s.size/\s.size<=60)=false from zy20 (fun h=>h2 h.2),show decide ((s.size:Int)<=60)=false from zy20 (by omega)]
 . refine zah (zy20 (by show ¬ (0:Int)<(s.size:Int);omega)) (zw ?_)
   rw [show decide (1<=s.size/\s.size<=60)=false from zy20 (fun h=>h1 h.1)]
def hi:List UInt8:=[104,105]
theorem yrl:busy (yxl 65530 hi 1)=true:=by
 have h:=zxm (D:=hi) ⟨by decide,by decide⟩ (first:=65530) ⟨by decide,by decide⟩ 1 zz5 (by decide +kernel);rw [h.busy]
 decide +kernel
theorem yxm {c:Config} (h:zob c=0) (l:List Step) (hl:l.length<=200):LI 200 24000 (zfq (zic c) l).1/\SL (zfq (zic c) l).1.sender:=by
 have:=yqc l (ydd h) zz0 zz0;exact ⟨⟨this.snd.mono zz0 zz0,this.rcv.more zz0,by omega,this.way,this.bytes⟩,yys l (ydd h) (xjc h) zz0 zz0⟩
theorem yqa {c:Config} {l:List Step} (h:zob c=0) (hl:l.length<=200):zoe c l=((zfq (zic c) l).1,(zfq (zic c) l).2,0):=by rw [zoe,zy0 (fun k=>k h),zy0 (by omega)]
theorem yut {X Y:zdi} {n:Int} {az:List Answer} (p0:zao Tryz.prog 21 [(zkg 65530).hv,xnr [⟨1,0,sm 0 0 hi⟩]] zaf (.tup [X.hv,.p (.sl 2 (az.map Answer.row)),i64 0]) zaf) (p1:zao Tryz.prog 24 [X.hv] zaf (.tup [Y.hv,i64 n]) zaf) (h1:0<n) (h2:Y.receiver.log.length=1) :
 zao Tryz.prog 20 [] zaf (zbm true) zaf:=by
 have q0:=zxv 1 1;have q1:=zmz 0 0 ⟨#[104,105]⟩ zz5;refine zap mixed Tryz.func20 zz5 ?_;(conv=>whnf)
 (refine cP ?_;refine dL q0 ?_)
 (refine cP ?_;refine dL q1 ?_)
 (refine cP ?_;refine dL p0 ?_)
 (refine cP ?_;refine dL p1 ?_)
 rw [show decide (n>0)=true from zy12 h1];(conv=>whnf);rw [show (((Y.receiver.log.map zcr.row).length:Int)==1)=true by rw [zy3,h2];rfl]
 try rfl
theorem ytg:zao Tryz.prog 20 [] zaf (zbm true) zaf:=by
 have hw:zob (zkg 65530)=0:=by decide
 have p0:=yjm (zkg 65530) [⟨1,0,sm 0 0 hi⟩] zz5;rw [yqa hw (by decide)] at p0;obtain ⟨hli,hsl⟩:=yxm hw [⟨1,0,sm 0 0 hi⟩] zz5;have p1:=zdz (zfq (zic (zkg 65530)) [⟨1,0,sm 0 0 hi⟩]).1 hli hsl zz0 zz0;have hl:=yik (D:=hi) ⟨by decide,by decide⟩ (first:=65530) ⟨by decide,by decide⟩ (t:=1) ⟨by decide,by decide⟩ (by decide +kernel);have hb:=yrl;have e:(zfq (zic (zkg 65530)) [⟨1,0,sm 0 0 hi⟩]).1=yxl 65530 hi 1:=rfl;rw [e] at p0 p1;refine yut p0 p1 ?_ ?_
 . rw [zlp (n:=399) hb]
   show (0:Int)<(((zfb 399 _).2+1:Nat):Int);omega
 . rw [hl];rfl
theorem xpz (s:ByteArray):((⟨(bs s).toArray⟩:ByteArray).toList==s.toList)=true:=by rw [xhd];exact beq_self_eq_true _
end Tp
namespace Tp
namespace GM
end GM
end Tp
namespace Tp
namespace GM
end GM
end Tp
namespace Tp
open Ser Snd Ln
section
variable {E:List Int} {c:Config} {n d N h S:Nat} {k f T:Int} {P:Nat} {Cs:List CH} {l:zdi} {g:GM}
theorem LX.calm (r:LX E c n d k N h S f T P Cs l g):(l.sender.out=[]↔g.out=[])/\(l.sender.queue=[]↔g.todo=[])/\(l.way=[]↔g.way=[]):=by
 refine ⟨?_,?_,?_⟩
 . rw [<- zy49,<- zy49,r.lr.sr.len]
 . have h1:=r.lr.sr.rest
   exact yy58
 . rw [<- zy49,<- zy49,r.lr.way.len]
end
theorem xbs {g:GM} (hok:(GM.drop g).ok=true):g.ok=true:=by
 unfold GM.drop at hok;split at hok
 . exact hok
 . have:=zhr hok
   exact this
end Tp
namespace Tp
deriving instance DecidableEq for GP
deriving instance DecidableEq for GM
namespace GM
noncomputable def zpq (g:GM):GM:=match g.way with
 | []=>g
 | _::_=>drop g
noncomputable def zoj:Nat->GM->GM
 | 0,g=>g
 | k+1,g=>zoj k (zpq g)
noncomputable def xaq (g:GM):GM:=tick false (zoj 8 g)
noncomputable def zra:Nat->GM->GM
 | 0,g=>g
 | k+1,g=>zra k (xaq g)
noncomputable def zdt (u:GM):GM:={u with out:=(u.out.map fun _=>(0,4))++(match u.todo with | []=>[] | _::_=>[(0,4)]),todo:=[],fwd:=true,ok:=u.ok&&u.way.isEmpty&&!u.out.isEmpty&&(u.out.all fun x=>!Nat.beq x.2 4)&&Nat.beq u.R 0&&Nat.beq u.a 0&&Nat.beq u.act 0}
noncomputable def yxg (g:GM):GM:=zfc (zdt (zib false (zoj 8 g)))
noncomputable def zaz (l a:Nat):GM:=yxg (zra l (send (new []) (cut a)))
noncomputable def rep (a:Nat):Nat:=bif Nat.ble a 4 then 4 else bif Nat.ble a 8 then 8 else 12
noncomputable def zcq (w:GM) (b:Nat):GM:=settle w.out.length 400 (send w (cut b))
end GM
end Tp
namespace Tp
open Ser Snd Ln
theorem zpo {k mid:Nat}:∀ (n p:Nat) (d:List UInt8) (i:Nat) (x:CH),(zif k mid n p d)[i]?=some x->x.part=p+i/\x.mid=mid
 | 0,_,_,_,_,h=>by cases h
 | n+1,p,d,i,x,h=>by
  rw [zif] at h;split at h
  . cases i with
    | zero=>have:=(by simpa using h:(⟨k,mid,p,true,d⟩:CH)=x);subst this;exact ⟨rfl,rfl⟩
    | succ i=>cases h
  . cases i with
    | zero=>have:=(by simpa using h:(⟨k,mid,p,false,d.take 4⟩:CH)=x);subst this;exact ⟨rfl,rfl⟩
    | succ i =>
     obtain ⟨h1,h2⟩:=zpo n (p+1) (d.drop 4) i x zz74;exact ⟨by omega,h2⟩
theorem yfz {x:zbr} (h1:x.id=0) (h2:x.state≠2):Sco.zhg 0 x={x with state:=4}:=zy1 ⟨h1,h2⟩
theorem yvt:∀ {l:List zbr} (p:Int),(∀ x∈l,x.state=4)->Sco.fl p l=0
 | [],_,_=>rfl
 | x::l,p,h=>by
  have e:Sco.fl p (x::l)=(if x.state=1/\x.path=p then x.chunk.data.length else 0)+Sco.fl p l:=by simp [Sco.fl]
  rw [e,yvt p fun y hy=>h y (by simp [hy]),zy0 (by rintro ⟨h1,-⟩;rw [h x (by simp)] at h1;cases h1)]
theorem zwe:∀ (q:List zbr) {s:zab},s.fates=[3]->(∀ x∈q,x.id=0)->q.foldl zgt s=s
 | [],_,_,_=>rfl
 | x::q,s,h,hq=>by
  rw [zy35];have:zgt s x=s:=by
   unfold zgt yru;rw [h,hq x (by simp)];rfl
  rw [this];exact zwe q h fun y hy=>hq y zz40
def dum:CH:=⟨0,0,0,false,[0]⟩
section
variable {N:Nat} {L k:Int} {A:List UInt8} {l:zdi} {u:GM} {s:zab}
structure xlv (L:Int) (A:List UInt8) (s:zab):Prop where
 fates:s.fates=[1]
 clock:s.clock=L
 life:1<=L/\L<=1000
 fresh:∀ m∈s.queue,m.mid<0->m.parts=0
def zwc (s:zab):List zbr:=match s.queue with
 | []=>[]
 | m::_=>[zhv s.next m]
theorem ypu (h:SI N s) (o:xlv L A s):(∀ m∈s.queue,m.id=0)/\∀ x∈s.out,x.id=0:=by
 have hl:s.fates.length=1:=by rw [o.fates];rfl
 refine ⟨fun m hm=>?_,fun x hx=>?_⟩
 . have:=(h.queue m hm).id0
   have:=(h.queue m hm).id1;omega
 . have:=(h.out x hx).id0
   have:=(h.out x hx).id1;omega
theorem zno (h:SI N s) (r:SR [1,0] 65530 (L-1) 1 (zif 0 0 A.length 0 A) s u) (o:xlv L A s) (ho:u.out≠[]) (ha:u.a=0) {m:zae} {q:List zae} (hq:s.queue=m::q):q=[]/\0<m.parts/\m.mid=0/\m.message.stream=0/\m.message.ordered=true:=by
 have hm:m∈s.queue:=by rw [hq];simp
 have hwf:=yrf h r.qc;have hal:ends (zif 0 0 A.length 0 A)<=1:=by
  cases hA:A.length with
  | zero=>show ends []<=1;decide
  | succ z=>rw [<- hA,zpm _ _ _ (zy19 _) (by omega)];exact zy19 _
 have hdr:=yfn (zif 0 0 A.length 0 A) (u.a+u.out.length);rw [r.rest] at hwf;have hq0:q=[]:=by
  rw [hq,zy8] at hwf;exact zy49.1 zz0
 have qi:=h.queue m hm;have q1:=qi.parts;have q2:=qi.sent;have q3:=qi.left;rw [r.qc.part] at q2;have hc1:s.config.turns=1:=by
  rcases r.qc.turns with e | ⟨-,e⟩
  . exact e
  . exfalso
    -- of a rank there would be two streams
    exact yy24
 have hst:m.message.stream=0:=by
  have h1:=qi.st0;have h2:=qi.st1;exact yy24
 have hrest:=r.rest;unfold rest at hrest;rw [hc1,show zmc 1 s.queue=s.queue from zy0 (by decide),hq,hq0,zje,zje,zy9,ha,zy58] at hrest;obtain ⟨F,hF⟩:∃ F,m.message.data.length=F+1:=⟨m.message.data.length-1,by omega⟩
 cases hz:zif m.message.stream.toNat (xfu s.mids m).toNat m.message.data.length m.parts.toNat (m.message.data.drop m.sent.toNat) with
 | nil=>rw [hF] at hz;exact absurd hz yva
 | cons z zs =>
  have hz0:(zif m.message.stream.toNat (xfu s.mids m).toNat m.message.data.length m.parts.toNat (m.message.data.drop m.sent.toNat))[0]?=some z:=by rw [hz];rfl
  obtain ⟨p1,p2⟩:=zpo _ _ _ 0 z hz0;rw [hz] at hrest;have hz1:(zif 0 0 A.length 0 A)[u.out.length]?=some z:=by
   have:=congrArg (fun y=>y[0]?) hrest
   simpa using this.symm
  obtain ⟨p3,p4⟩:=zpo _ _ _ _ z hz1;have hol:0<u.out.length:=zy30.2 ho;have hpos:0<m.parts:=by omega
  have hmid:0<=m.mid:=by
   rcases zy140 m.mid 0 with hn | hn
   . have:=o.fresh m hm hn;omega
   . exact hn
  have e:xfu s.mids m=m.mid:=zy0 zz0;rw [e] at p2;exact ⟨hq0,hpos,by omega,hst,r.qc.ord m hm⟩
theorem ylv (h:SI N s) (r:SR [1,0] 65530 (L-1) 1 (zif 0 0 A.length 0 A) s u) (o:xlv L A s) (ho:u.out≠[]) (_:∀ y∈u.out,y.2≠4) (ha:u.a=0) :
 expire s=zcd s 0/\(zcd s 0).fates=[3]/\(zcd s 0).queue=[]/\(zcd s 0).out=(s.out++zwc s).map (Sco.zhg 0)/\(zcd s 0).paths=s.paths.mapIdx (fun i p=>flP ((s.out++zwc s).map (Sco.zhg 0)) i p)/\(zcd s 0).mids=s.mids/\(zcd s 0).clock=s.clock/\(zcd s 0).config=s.config/\(zcd s 0).cum=s.cum/\(zcd s 0).forward=true/\(zcd s 0).room=s.room:=by
 obtain ⟨i1,i2⟩:=ypu h o;have hst2:∀ x∈s.out,x.state≠2:=fun x hx=>by
  obtain ⟨j,hj⟩:=zy33 hx;obtain ⟨y,hy⟩:∃ y,u.out[j]?=some y:=⟨_,zy2 (by have:=Gh.zci hj;have:=r.len;omega)⟩
  have:=(r.out j x y hj hy).st;have:=(r.out j x y hj hy).st3;omega
 have hfold:∀ q,s.queue=q->q.foldl (zes 0) {s with fates:=s.fates.set (0:Int).toNat 3}={s with fates:=[3],out:=s.out++zwc s,next:=(q.foldl (zes 0) {s with fates:=s.fates.set (0:Int).toNat 3}).next}:=by
  rw [o.fates];intro q hq;cases q with
  | nil=>unfold zwc;rw [hq,zy9];rfl
  | cons m q =>
   obtain ⟨q0,q1,-,-,-⟩:=zno h r o ho ha hq;subst q0;have:zes 0 {s with fates:=[3]} m={s with fates:=[3],out:=s.out++[zhv s.next m],next:=W (s.next+1)}:=by
    unfold zes;rw [zy1 ⟨i1 m (by rw [hq];simp),q1⟩]
   show (zes 0 {s with fates:=[3]} m)={s with fates:=[3],out:=_,next:=(zes 0 {s with fates:=[3]} m).next};rw [this];unfold zwc;rw [hq]
 have hfilt:s.queue.filter (fun m=>decide (m.id≠0))=[]:=zy97.2 fun m hm=>by simp [i1 m hm]
 have hfields:(zcd s 0).fates=[3]/\(zcd s 0).queue=[]/\(zcd s 0).out=(s.out++zwc s).map (Sco.zhg 0)/\(zcd s 0).paths=s.paths.mapIdx (fun i p=>flP ((s.out++zwc s).map (Sco.zhg 0)) i p)/\(zcd s 0).mids=s.mids/\(zcd s 0).clock=s.clock/\(zcd s 0).config=s.config/\(zcd s 0).cum=s.cum/\(zcd s 0).forward=true/\(zcd s 0).room=s.room:=by
  unfold zcd;dsimp only;rw [hfold _ rfl,hfilt];exact ⟨rfl,rfl,rfl,rfl,rfl,rfl,rfl,rfl,rfl,rfl⟩
 refine ⟨?_,hfields⟩;have hids:∀ x∈(zcd s 0).out,x.id=0:=fun x hx=>by
  rw [hfields.2.2.1] at hx;obtain ⟨y,hy,rfl⟩:=zy23.1 hx;have hg:(Sco.zhg 0 y).id=y.id:=by unfold Sco.zhg;split<;>rfl
  rw [hg];rcases zy10.1 hy with hy | hy
  . exact i2 y hy
  . unfold zwc at hy
    split at hy
    . cases hy
    . rename_i m q hq
      rw [zy7] at hy;subst hy;exact i1 m (by rw [hq];simp)
 have hlife:=o.life;have hold:∀ came life:Int,0<life/\came+life=L-1+1->0<=came->old s.clock came life=true:=by
  intro came life hh hc;unfold old;rw [o.clock,zbg (by omega) (by omega),zy12 hh.1,zy12 (by omega)];rfl
 unfold expire;cases hq:s.queue with
 | nil =>
  show s.out.foldl zgt s=zcd s 0;cases hx:s.out with
  | nil=>exact absurd (zy49.1 (by rw [<- r.len,hx];rfl)) ho
  | cons x xs =>
   have hxm:x∈s.out:=by rw [hx];simp
   have hdue:yru s x=true:=by
    unfold yru;have hf:s.fates[x.id.toNat]?.getD 0=1:=by rw [i2 x hxm,o.fates];rfl
    have hl2:old s.clock x.came x.life=true:=by
     rcases r.due.out x hxm with e | e
     . rw [i2 x hxm,o.fates] at e;cases e
     . refine hold _ _ ?_ e.2.1
       rcases e.2.2.2.2 with e | e
       . omega
       . exact e
    rw [hf,hl2,zy12 (hst2 x hxm)];rfl
   rw [zy35];have:zgt s x=zcd s 0:=by unfold zgt;rw [hdue,zy1 rfl,i2 x hxm]
   rw [this];exact zwe xs hfields.1 fun y hy=>i2 y (by rw [hx];simp [hy])
 | cons m q =>
  obtain ⟨q0,-⟩:=zno h r o ho ha hq;subst q0;have hm:m∈s.queue:=by rw [hq];simp
  have hd:=r.due.queue m hm;have:zhw s m=zcd s 0:=by
   unfold zhw;rw [hold m.came m.message.life (by rcases hd.2.2.2.2 with e | e;omega;exact e) hd.2.1,zy1 rfl,i1 m hm]
  show ((zhw s m)).out.foldl zgt (zhw s m)=zcd s 0;rw [this];exact zwe _ hfields.1 hids
end
end Tp
namespace Tp
open Ser Snd Ln
noncomputable def zfy (u:GM):Nat:=(GM.zdt u).out.length
section
variable {N:Nat} {L:Int} {A:List UInt8} {l:zdi} {u:GM}
theorem xih (r:LR [1,0] N 0 1 65530 (L-1) 1 (zif 0 0 A.length 0 A) l u) (fx:FX (zkg 65530) 1 0 l.sender) (o:xlv L A l.sender) (ho:u.out≠[]) (h4:∀ y∈u.out,y.2≠4) (ha:u.a=0) (hR:u.R=0) (hw:u.way=[]) (zcv:u.act=0) (hA:A.length<=60) :
 LX [1,0] (zkg 65530) 1 1 L N (zfy u) 1 65530 100000 1 (List.replicate (zfy u) dum) {l with sender:=zcd l.sender 0} (GM.zdt u)/\emit l=emit {l with sender:=zcd l.sender 0}:=by
 obtain ⟨f0,f1,f2,f3,f4,f5,f6,f7,f8,f9,f10⟩:=ylv r.si r.sr o ho h4 ha;obtain ⟨i1,i2⟩:=ypu r.si o;have hsr:=r.sr;have hsi:SI N (zcd l.sender 0):=by rw [<- f0];exact (zmi r.si).1
 have hcf:l.sender.config=zkg 65530:=fx.cfg;have hlife:=o.life
 -- how long
 have htq:u.todo=[]↔l.sender.queue=[]:=by
  have h1:=hsr.rest;have h2:=hsr.todo
  constructor
  . intro e
    rw [e] at h2;exact zqj r.si hsr.qc zz61
  . intro e
    have:rest l.sender=[]:=by
     unfold rest zmc;rw [e];split<;>rfl
    rw [h1] at this;rw [h2,this];rfl
 have hgo:(GM.zdt u).out=(u.out.map fun _=>(0,4))++(match u.todo with | []=>[] | _::_=>[(0,4)]):=rfl;have hE:(zwc l.sender).length=(match u.todo with | []=>([]:List (Nat×Nat)) | _::_=>[(0,4)]).length:=by
  unfold zwc;cases hq:l.sender.queue with
  | nil=>rw [htq.2 hq];rfl
  | cons m q =>
   cases ht:u.todo with
   | nil=>rw [htq.1 ht] at hq;cases hq
   | cons _ _=>rfl
 have hlen:(zcd l.sender 0).out.length=zfy u:=by
  unfold zfy;rw [f3,hgo,zy3,zy4,zy4,zy3,hE,hsr.len]
 have hg61:1<=zfy u/\zfy u<=61:=by
  have h1:=r.alen;have h2:=zni (k:=0) (mid:=0) A.length 0 A;have h3:=zy30.2 ho;unfold zfy;rw [hgo,zy4,zy3];cases u.todo with
  | nil=>show 1<=u.out.length+0/\u.out.length+0<=61;omega
  | cons _ _=>show 1<=u.out.length+1/\u.out.length+1<=61;omega
 have hy4:∀ y∈(GM.zdt u).out,y=(0,4):=fun y hy=>by
  rw [hgo] at hy;rcases zy10.1 hy with hy | hy
  . obtain ⟨z,-,rfl⟩:=zy23.1 hy;rfl
  . cases ht:u.todo with
    | nil=>rw [ht] at hy;cases hy
    | cons _ _=>rw [ht] at hy;exact zy7.1 hy
 have hx4:∀ x∈(zcd l.sender 0).out,x.state=4/\x.id=0/\x.chunk.stream=0/\x.chunk.mid=0/\x.chunk.ordered=true:=fun x hx=>by
  rw [f3] at hx;obtain ⟨z,hz,rfl⟩:=zy23.1 hx;rcases zy10.1 hz with hz | hz
  . obtain ⟨j,hj⟩:=zy33 hz
    obtain ⟨y,hy⟩:∃ y,u.out[j]?=some y:=⟨_,zy2 (by have:=Gh.zci hj;have:=hsr.len;omega)⟩
    obtain ⟨b1,b2,b3,b4,b5⟩:=hsr.out j z y hj hy;obtain ⟨c,c1,c2,c3⟩:=b3 (h4 y (zy5 hy));have hne:z.state≠2:=by rw [b1];rcases b2 with e | e | e<;>rw [e]<;>decide
    rw [yfz (i2 z hz) hne];have hcm:=zpo _ _ _ _ c c1;have hcs:=zvt _ _ _ c (zy5 c1);refine ⟨rfl,i2 z hz,?_,?_,?_⟩
    . show z.chunk.stream=0
      rw [c2];show ((c.stream:Nat):Int)=0;rw [hcs];rfl
    . show z.chunk.mid=0
      rw [c2];show ((c.mid:Nat):Int)=0;rw [hcm.2];rfl
    . show z.chunk.ordered=true
      rw [c2];rfl
  . unfold zwc at hz
    split at hz
    . cases hz
    . rename_i m q hq
      rw [zy7] at hz;subst hz;obtain ⟨q0,q1,q2,q3,q4⟩:=zno r.si hsr o ho ha hq;rw [yfz (i1 m (by rw [hq];simp)) (by show (0:Int)≠2;decide)];refine ⟨rfl,i1 m (by rw [hq];simp),q3,?_,q4⟩;show tag m.mid=0;rw [q2];rfl
 have hmids:l.sender.mids=[1,0]:=by
  have e:=hsr.qc.ends;rw [hcf] at e;have e:zgo l.sender.mids (zmc 1 l.sender.queue)=[1,0]:=e;rw [show zmc 1 l.sender.queue=l.sender.queue from zy0 (by decide)] at e;cases hq:l.sender.queue with
  | nil=>rw [hq] at e;exact e
  | cons m q =>
   obtain ⟨q0,q1,q2,q3,q4⟩:=zno r.si hsr o ho ha hq;rw [hq,q0,zgo,zgo] at e;unfold zyw at e;rw [zy0 (by omega)] at e;exact e
 have hfl:GM.zak (GM.zdt u).out=0:=by
  have gen:∀ l:List (Nat×Nat),(∀ y∈l,y=(0,4))->GM.zak l=0:=by
   intro l
   induction l with
   | nil=>intro _;rfl
   | cons y l ih =>
    intro h;rw [GM.zdv,ih fun z hz=>h z (by simp [hz]),h y (by simp)];rfl
  exact gen _ hy4
 have hdrop:(List.replicate (zfy u) dum).drop (zfy u)=[]:=List.drop_eq_nil_iff.2 (by rw [zy57];exact zy19 _);have hpath:(zcd l.sender 0).paths[0]?=some (pathOf l.sender.clock (GM.zdt u)):=by
  have hp:=hsr.path;rw [zcv] at hp;rw [f4,zy47,hp];show some (flP _ 0 (pathOf l.sender.clock u))=_;unfold flP;rw [<- f3,yvt _ fun x hx=>(hx4 x hx).1];show some (⟨_,_,_,((0:Nat):Int),_,_,_⟩:Path)=some ⟨_,_,_,(GM.zak (GM.zdt u).out:Int),_,_,_⟩;rw [hfl];rfl
 have hP1:l.sender.paths.length=1:=hsr.np;have hSR:SR [1,0] 65530 100000 1 (List.replicate (zfy u) dum) (zcd l.sender 0) (GM.zdt u):=by
  have hau:(GM.zdt u).a=0:=ha;have hactu:(GM.zdt u).act=0:=zcv;refine ⟨⟨.inl (by rw [f7,hcf];rfl),by rw [f7,hcf];rfl,fun m hm=>(by rw [f2] at hm;cases hm),by rw [f5];exact hsr.qc.mids,?_⟩,by rw [f7,hcf];rfl,?_,?_,hlen,fun j x y hx hy=>?_,?_,?_,fun x hx=>?_,by rw [hactu,f6];exact hpath,fun i p hi hp=>?_,fun h=>(by cases h),f9,by rw [f10];exact hsr.room,by rw [f6];exact hsr.clk0,by rw [f6];exact hsr.clk,by decide,by decide,by decide,⟨hsr.lim.win,hsr.lim.slow,hsr.lim.par,hsr.lim.wait,hsr.lim.wait1,hsr.lim.errs,hsr.lim.al⟩,⟨fun m hm=>(by rw [f2] at hm;cases hm),fun x hx=>.inl ?_⟩⟩
  . rw [f2,f5,hmids]
    unfold zmc;split<;>rfl
  . rw [f4,zy77];exact hP1
  . rw [f8,hsr.cum,hau,ha]
  . have hye:=hy4 y (zy5 hy)
    obtain ⟨x1,x2,x3,x4,x5⟩:=hx4 x (zy5 hx);subst hye;exact ⟨x1,.inr (.inr rfl),fun h=>absurd rfl h,fun _=>⟨x3,x4,x5,rfl⟩,fun h=>by rcases h with h | ⟨-,h⟩<;>cases h⟩
  . rw [hau,zy58]
    show rest (zcd l.sender 0)=(List.replicate (zfy u) dum).drop (zfy u);rw [hdrop];unfold rest zmc;rw [f2];split<;>rfl
  . rw [hau,zy58]
    show []=((List.replicate (zfy u) dum).drop (zfy u)).map _;rw [hdrop];rfl
  . rw [zy51 hx]
    exact ⟨by decide,by decide,by decide,by decide,by decide⟩
  . have:=Gh.zci hp
    rw [f4,zy77,hP1] at this;rw [hactu] at hi;omega
  . have:=(hx4 x hx).2.1
    rw [this,f1];rfl
 have hRR:=r.rr;rw [hR] at hRR;refine ⟨⟨⟨hsi,r.few,hSR,?_,?_,?_,fun m hm=>?_,?_,?_,?_⟩,?_,by rw [<- o.clock];exact f6,by omega⟩,?_⟩
 . refine ⟨by rw [zy57];omega,hSR.zeh,by decide,by decide,?_,.inr rfl,.inl rfl,by rw [zy57];exact zy19 _⟩
   rw [hdrop];trivial
 . show RR (zfy u) 1 65530 _ u.R l.receiver
   rw [hR];refine ⟨hRR.cum,zy92 _,.inl ⟨rfl,by omega,?_⟩⟩;rcases hRR.ri with ⟨-,e,-⟩ | ⟨-,e⟩
   . omega
   . exact e
 . show zzb _ l.way u.way
   have:=r.way;rw [hw] at this ⊢;cases hlw:l.way with
   | nil=>exact .nil
   | cons p v=>rw [hlw] at this;cases this
 . have hm:GP.data m∈u.way:=hm
   rw [hw] at hm;cases hm
 . show u.R<=_
   rw [hR];exact zy92 _
 . show zfy u<=u.a+(GM.zdt u).out.length
   rw [ha,zy58];exact zy19 _
 . show u.a+(GM.zdt u).out.length<=_
   rw [ha,zy58,zy57];exact zy19 _
 . refine ⟨by show (zcd l.sender 0).config=_;rw [f7,hcf],by show (zcd l.sender 0).fates.length=1;rw [f1];rfl,fun f hf=>?_,fun id hi=>?_,fun id hi=>?_,fun id hi=>?_⟩
   . have hf:f∈(zcd l.sender 0).fates:=hf
     rw [f1,zy7] at hf;subst hf;decide
   . have hi:(zcd l.sender 0).fates[id]?=some 3:=hi
     rw [f1] at hi;have:=Gh.zci hi;exact this
   . have:id=0:=by omega
     subst this;show (zcd l.sender 0).fates[0]?=some 3;rw [f1];rfl
   . have hi:(zcd l.sender 0).fates[id]?=some 1:=hi
     rw [f1] at hi;have hlt:id<1:=Gh.zci hi;have:id=0:=by omega
     subst this;cases hi
 . have hexp:expire (zcd l.sender 0)=zcd l.sender 0:=hSR.expire (by rw [f6];exact hsr.clk)
   have hpp:zho l.sender=zho (zcd l.sender 0):=by
    unfold zho;rw [f0,hexp,f4,zy77]
   unfold emit;have hpu:zfc l.sender=zfc (zcd l.sender 0):=by
    unfold zfc;rw [hpp,f7]
   rw [hpu]
end
end Tp
end Go.HL
