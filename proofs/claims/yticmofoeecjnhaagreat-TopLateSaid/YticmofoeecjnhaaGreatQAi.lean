/- Walks, contracts and laws of the law's functions: part 9. No condition. -/
import Derived.Test.YticmofoeecjnhaaGreatQAh
open Go.Proofs
set_option maxHeartbeats 32000000
set_option maxRecDepth 100000
set_option linter.unusedSimpArgs false
namespace Go.HL
namespace Tp
namespace GM
theorem xjy (a:Nat):rep a=4\/rep a=8\/rep a=12:=by
 unfold rep;cases Nat.ble a 4 with
 | true=>exact .inl rfl
 | false =>
  cases Nat.ble a 8 with
  | true=>exact .inr (.inl rfl)
  | false=>exact .inr (.inr rfl)
theorem zds {l:Nat} (e:((List.range 60).all fun a=>decide (zaz l (a+1)=zaz l (rep (a+1))))=true) (h4:((List.range 60).all fun b=>zeh (zcq (zaz l 4) (b+1)))=true) (h8:((List.range 60).all fun b=>zeh (zcq (zaz l 8) (b+1)))=true) (h12:((List.range 60).all fun b=>zeh (zcq (zaz l 12) (b+1)))=true) (a b:Nat) (ha:a<60) (hb:b<60):zeh (zcq (zaz l (a+1)) (b+1))=true:=by
 have:=zy39 (zy60.1 e a (zy160.2 ha));rw [this];rcases xjy (a+1) with h | h | h<;>rw [h]
 . exact zy60.1 h4 b (zy160.2 hb)
 . exact zy60.1 h8 b (zy160.2 hb)
 . exact zy60.1 h12 b (zy160.2 hb)
theorem xiv:∀ (l:Nat),l<20->∀ (a b:Nat),a<60->b<60->zeh (zcq (zaz l (a+1)) (b+1))=true
 | 0,_=>zds we0 xqj xqk xnx
 | 1,_=>zds we1 xql xqm xot
 | 2,_=>zds we2 xqn xqo xou
 | 3,_=>zds we3 xqp xqq xov
 | 4,_=>zds we4 xqr xqs xow
 | 5,_=>zds we5 xqt xqu xox
 | 6,_=>zds we6 xqv xqw xoy
 | 7,_=>zds we7 xqx xqy xoz
 | 8,_=>zds we8 xqz xra xpa
 | 9,_=>zds we9 xrb xrc xpb
 | 10,_=>zds xrn xny xnz xkz
 | 11,_=>zds xro xoa xob xla
 | 12,_=>zds xrp xoc xod xlb
 | 13,_=>zds xrq xoe xof xlc
 | 14,_=>zds xrr xog xoh xld
 | 15,_=>zds xrs xoi xoj xle
 | 16,_=>zds xrt xok xol xlf
 | 17,_=>zds xru xom xon xlg
 | 18,_=>zds xrv xoo xop xlh
 | 19,_=>zds xrw xoq xos xli
 | n+20,h=>absurd h zz0
end GM
end Tp
namespace Tp
open Ser Snd Ln
def zpr:List Step:=List.replicate 8 (stp 3)
def zub:List Step:=zpr++[stp 5]
def zee:Nat->List Step
 | 0=>[]
 | n+1=>zee n++zub
section
variable {E:List Int} {c:Config} {n d N h S:Nat} {k f T:Int} {P:Nat} {Cs:List CH} {l:zdi} {g:GM}
theorem yrt {g:GM} (hok:(GM.zpq g).ok=true):g.ok=true:=by
 unfold GM.zpq at hok;split at hok
 . exact hok
 . exact xbs hok
theorem zkm:∀ (m:Nat) {g:GM},(GM.zoj m g).ok=true->g.ok=true
 | 0,_,h=>h
 | m+1,_,h=>yrt (zkm m h)
theorem ybc:∀ (m:Nat) {g:GM},(GM.zra m g).ok=true->g.ok=true
 | 0,_,h=>h
 | m+1,_,h=>zkm 8 (zqx (ybc m h))
theorem zyj:∀ (m:Nat) (g:GM),GM.zra (m+1) g=GM.xaq (GM.zra m g)
 | 0,_=>rfl
 | m+1,g=>zyj m (GM.xaq g)
theorem zzn (r:LX E c n d k N h S f T P Cs l g):(emit l).sender.fates=l.sender.fates:=(ydo (r.lr.sr.expire zz89)).fates
theorem yvf (r:LX E c n d k N h S f T P Cs l g) (hok:(GM.zpq g).ok=true):LX E c n d k N h S f T P Cs (doS l (stp 3)).1 (GM.zpq g)/\(doS l (stp 3)).1.sender.fates=l.sender.fates:=by
 obtain ⟨-,-,w⟩:=r.calm;cases hg:g.way with
 | nil =>
  have hl:=w.2 hg;have e1:GM.zpq g=g:=by unfold GM.zpq;rw [hg]
  have e2:(doS l (stp 3)).1=l:=by
   unfold doS;rw [zy0 (show ¬ (stp 3).kind=1 by decide),zy1 (.inr (.inl rfl)),zy0 (show ¬ (stp 3).n<0 by decide)];have:l.way[(stp 3).n.toNat]?=none:=by rw [hl];rfl
   rw [this]
  rw [e1,e2];exact ⟨r,rfl⟩
 | cons p v =>
  have e1:GM.zpq g=GM.drop g:=by unfold GM.zpq;rw [hg]
  rw [e1] at hok ⊢;have hne:g.way≠[]:=by rw [hg];simp
  refine ⟨xhn r hne hok,?_⟩;obtain ⟨l1,g1,q1,q2,q3,q4⟩:=yve r.lr hne;rw [q1,<- q4];exact zzn (l:=l1) (g:=g1) ⟨q3,by rw [q4];exact r.fx,by rw [q4];exact r.clock,r.hT⟩
theorem yca:∀ (m:Nat) {l:zdi} {g:GM},LX E c n d k N h S f T P Cs l g->(GM.zoj m g).ok=true->LX E c n d k N h S f T P Cs (zfq l (List.replicate m (stp 3))).1 (GM.zoj m g)/\(zfq l (List.replicate m (stp 3))).1.sender.fates=l.sender.fates
 | 0,_,_,r,_=>⟨r,rfl⟩
 | m+1,l,g,r,hok=>by
  obtain ⟨h1,h2⟩:=yvf r (zkm m hok);obtain ⟨h3,h4⟩:=yca m h1 hok;rw [zy90];exact ⟨h3,h4.trans h2⟩
theorem zmv (a b:List Step) (l:zdi):(zfq l (a++b)).1=(zfq (zfq l a).1 b).1:=by rw [zqf]
theorem zxg (x:Step) (l:zdi):(zfq l [x]).1=(doS l x).1:=rfl
theorem yid (l:zdi):(zfq l zub).1=(doS (zfq l zpr).1 (stp 5)).1:=by
 unfold zub;rw [zqf];rfl
theorem xku (r:LX E c n d k N h S f T 1 Cs l g) (hk:k+1<=T) (hok:(GM.xaq g).ok=true):LX E c n d (k+1) N h S f T 1 Cs (zfq l zub).1 (GM.xaq g)/\(zfq l zub).1.sender.fates=l.sender.fates:=by
 obtain ⟨h1,h2⟩:=yca 8 r (zqx hok);rw [yid];have ht:=xam h1 (two:=false) rfl hk (fun e=>by cases e) hok;refine ⟨ht,?_⟩;obtain ⟨l1,e1,e3,e4⟩:=ymq h1.lr (two:=false) rfl (by rw [h1.clock];have:=h1.lr.sr.small;omega) (fun e=>by cases e) (zhr (g:=GM.zib false (GM.zoj 8 g)) hok);show (doS (zfq l (List.replicate 8 (stp 3))).1 (stp 5)).1.sender.fates=_;rw [e1,<- h2];have hx:LX E c n d (k+1) N h S f T 1 Cs l1 (GM.zib false (GM.zoj 8 g)):=⟨e3,by rw [e4];exact ymp h1.fx,by
  have h0:=h1.lr.sr.clk0;have hs:=h1.lr.sr.small;rw [h1.clock] at h0;rw [e4,zso,h1.clock,zbg (by omega) (by omega)],hk⟩
 rw [zzn hx,e4];exact (zqc _ _ {(zfq l (List.replicate 8 (stp 3))).1.sender with clock:=W ((zfq l (List.replicate 8 (stp 3))).1.sender.clock+1)}).fates
theorem yrc:∀ (m:Nat) {g:GM},LX E c n d k N h S f T 1 Cs l g->k+m<=T->(GM.zra m g).ok=true->LX E c n d (k+m) N h S f T 1 Cs (zfq l (zee m)).1 (GM.zra m g)/\(zfq l (zee m)).1.sender.fates=l.sender.fates
 | 0,g,r,_,_=>by rw [show k+((0:Nat):Int)=k by omega];exact ⟨r,rfl⟩
 | m+1,g,r,hk,hok=>by
  rw [zyj] at hok ⊢;obtain ⟨h1,h2⟩:=yrc m r (by push_cast at hk;omega) (zkm 8 (zqx hok));obtain ⟨h3,h4⟩:=xku h1 (by push_cast at hk;omega) hok;have e:(zfq l (zee (m+1))).1=(zfq (zfq l (zee m)).1 zub).1:=by
   show (zfq l (zee m++zub)).1=_;rw [zqf]
  rw [e,show k+((m+1:Nat):Int)=k+m+1 by omega];exact ⟨h3,h4.trans h2⟩
end
theorem zwr (part:Int):∀ (l:List Nat) (s:zab),(l.foldl (zdy part) s).queue=s.queue
 | [],_=>rfl
 | i::l,s=>by
  rw [zy35,zwr part l];unfold zdy;split
  . rfl
  split
  . rfl
  . dsimp only
    split<;>rfl
theorem yvm {u:GM} (h:(GM.zdt u).ok=true):u.ok=true/\u.way=[]/\u.out≠[]/\(∀ y∈u.out,y.2≠4)/\u.R=0/\u.a=0/\u.act=0:=by
 have h:((((((u.ok&&u.way.isEmpty)&&!u.out.isEmpty)&&(u.out.all fun x=>!Nat.beq x.2 4))&&Nat.beq u.R 0)&&Nat.beq u.a 0)&&Nat.beq u.act 0)=true:=h;have h1:=GM.zda (GM.zda (GM.zda (GM.zda h)));refine ⟨GM.zda (GM.zda h1),zy119.1 (GM.zgy (GM.zda h1)),fun e=>?_,fun y hy e=>?_,zy6 (GM.zgy (GM.zda (GM.zda h))),zy6 (GM.zgy (GM.zda h)),zy6 (GM.zgy h)⟩
 . have:=GM.zgy h1
   rw [e] at this;cases this
 . have:=zy60.1 (GM.zgy (GM.zda (GM.zda (GM.zda h)))) y hy
   rw [e] at this;cases this
theorem xat (u:GM):(GM.zfc (GM.zdt u)).out.length=zfy u:=by
 have h1:=yqd (GM.zdt u);have h2:=yif (GM.zdt u);have ha:(GM.zfc (GM.zdt u)).a=(GM.zdt u).a:=by
  show (GM.zio (GM.zdt u)).1.a=_;unfold GM.zio;cases (GM.zdt u).fwd&&!Nat.beq (GM.lead (GM.zdt u).out) 0<;>rfl
 have ht:(GM.zdt u).todo.length=0:=rfl;rw [ha,ht] at h1;rw [ha] at h2;unfold zfy;omega
def yxi (life:Nat) (A B:List UInt8):List Step:=([⟨1,0,sm 0 life A⟩]++zee life)++[⟨1,0,sm 0 0 B⟩]
theorem xcz {life:Nat} {A B:List UInt8} (hl:1<=life/\life<=20) (hA:1<=A.length/\A.length<=60) (hB:1<=B.length/\B.length<=60) :
 (zfb 400 (zfq (zic (zkg 65530)) (yxi life A B)).1).1.receiver.log=[⟨0,1,true,B⟩]/\(zfb 400 (zfq (zic (zkg 65530)) (yxi life A B)).1).1.sender.fates=[3,2]:=by
 obtain ⟨m,rfl⟩:∃ m,life=m+1:=⟨life-1,by omega⟩
 have hev:=GM.xiv m zz0 (A.length-1) (B.length-1) zz0 zz0;rw [show A.length-1+1=A.length by omega,show B.length-1+1=B.length by omega] at hev;unfold GM.zcq at hev;have ok4:=yvp hev;have ok3:=yqm ok4;unfold GM.zaz GM.yxg at ok3;generalize hu:GM.zib false (GM.zoj 8 (GM.zra m (GM.send (GM.new []) (GM.cut A.length))))=u at ok3;have okE:=zhr ok3;obtain ⟨oku,hway,hout,h4,hR,ha,zcv⟩:=yvm okE;have ok2:(GM.zoj 8 (GM.zra m (GM.send (GM.new []) (GM.cut A.length)))).ok=true:=xan (two:=false) (by rw [hu];exact oku);have ok1:=zkm 8 ok2;have ok0:=ybc m ok1
 -- the message
 have r0:LX [0,0] (zkg 65530) 0 0 0 0 0 1 65530 (m:Int) 1 [] (zic (zkg 65530)) (GM.new []):=xfv (c:=zkg 65530) zz5 (.inl rfl) rfl rfl rfl rfl (.inl rfl) ⟨by omega,by omega⟩;have c1:=xnb (S:=1) (k:=0) (f:=65530) zz5 (.inl rfl) hA ⟨by decide,by decide⟩ rfl;have r1:LX [1,0] (zkg 65530) 1 0 0 1 0 1 65530 (m:Int) 1 (zif 0 0 A.length 0 A) (doS (zic (zkg 65530)) ⟨1,0,sm 0 ((m+1:Nat):Int) A⟩).1 (GM.send (GM.new []) (GM.cut A.length)) :=
  ydw r0 (st:=0) (life:=((m+1:Nat):Int)) (D:=A) (mid:=0) rfl zz5 ⟨by omega,by omega,.inr ⟨by omega,by omega⟩⟩ hA zz5 zz5 rfl c1 ok0
 have hf1:(doS (zic (zkg 65530)) ⟨1,0,sm 0 ((m+1:Nat):Int) A⟩).1.sender.fates=[1]:=by
  rw [zqk (xnn (by decide) ⟨by omega,by omega⟩ hA (by decide))];have hexp:expire (zgb (zic (zkg 65530)).sender (sm 0 ((m+1:Nat):Int) A))=zgb (zic (zkg 65530)).sender (sm 0 ((m+1:Nat):Int) A):=by
   unfold expire;show ([_].foldl zhw _).out.foldl zgt _=_;have:zhw (zgb (zic (zkg 65530)).sender (sm 0 ((m+1:Nat):Int) A)) ⟨0,-1,0,0,0,sm 0 ((m+1:Nat):Int) A⟩=zgb (zic (zkg 65530)).sender (sm 0 ((m+1:Nat):Int) A):=by
    unfold zhw;rw [show old (zgb (zic (zkg 65530)).sender (sm 0 ((m+1:Nat):Int) A)).clock 0 (sm 0 ((m+1:Nat):Int) A).life=false by
     show old 0 0 ((m+1:Nat):Int)=false;unfold old;rw [show W (0-0)=0 from rfl,zy20 (show ¬ (0:Int)>=((m+1:Nat):Int) by omega),Bool.and_false]]
    rfl
   show (zhw (zgb (zic (zkg 65530)).sender (sm 0 ((m+1:Nat):Int) A)) ⟨0,-1,0,0,0,sm 0 ((m+1:Nat):Int) A⟩).out.foldl zgt (zhw (zgb (zic (zkg 65530)).sender (sm 0 ((m+1:Nat):Int) A)) ⟨0,-1,0,0,0,sm 0 ((m+1:Nat):Int) A⟩)=_;rw [this];rfl
  exact (ydo hexp).fates
 generalize hl0:(doS (zic (zkg 65530)) ⟨1,0,sm 0 ((m+1:Nat):Int) A⟩).1=l0 at r1 hf1
 -- all is lost
 obtain ⟨r2,hf2⟩:=yrc m r1 zz0 ok1;obtain ⟨r3,hf3⟩:=yca 8 r2 ok2;obtain ⟨l1,e1,e3,e4⟩:=ymq r3.lr (two:=false) rfl (by rw [r3.clock];omega) (fun e=>by cases e) (by rw [hu];exact oku);rw [hu] at e3
 -- where that is
 have hpre:(zfq (zic (zkg 65530)) ([⟨1,0,sm 0 ((m+1:Nat):Int) A⟩]++zee m++zpr)).1=(zfq (zfq l0 (zee m)).1 (List.replicate 8 (stp 3))).1:=by
  rw [zmv,zmv,zxg,hl0];unfold zpr;exact Eq.refl _
 have hul:∀ j,(zee j).length=9*j:=by
  intro j
  induction j with
  | zero=>rfl
  | succ j ih =>
   show (zee j++zub).length=_;rw [zy4,ih];show 9*j+9=_;omega
 have hlen:([(⟨1,0,sm 0 ((m+1:Nat):Int) A⟩:Step)]++zee m++zpr).length=9+9*m:=by
  rw [zy4,zy4,hul];show 1+9*m+8=_;omega
 obtain ⟨H,A0,D,gl⟩:=Gh.yqb ([⟨1,0,sm 0 ((m+1:Nat):Int) A⟩]++zee m++zpr) (Gh.xjb (c:=zkg 65530) zz5) (by rw [hlen];omega) (by rw [hlen];omega);rw [hpre] at gl;have hov:xlv ((m+1:Nat):Int) A l1.sender:=by
  refine ⟨?_,?_,⟨by omega,by omega⟩,fun q hq hn=>?_⟩
  . rw [e4]
    refine (zqc _ _ {(zfq (zfq l0 (zee m)).1 (List.replicate 8 (stp 3))).1.sender with clock:=W ((zfq (zfq l0 (zee m)).1 (List.replicate 8 (stp 3))).1.sender.clock+1)}).fates.trans ?_;show (zfq (zfq l0 (zee m)).1 (List.replicate 8 (stp 3))).1.sender.fates=[1];rw [hf3,hf2,hf1]
  . rw [e4,zso,r3.clock,zbg (by omega) (by omega)];push_cast;omega
  . rw [e4] at hq
    have hq:q∈(tick (zfq (zfq l0 (zee m)).1 (List.replicate 8 (stp 3))).1.sender).queue:=hq;unfold tick at hq;rw [zwr] at hq;exact (gl.gs.fresh q hq hn).1
 have hT:(m:Int)=((m+1:Nat):Int)-1:=by omega
 rw [hT] at e3;obtain ⟨r4,he⟩:=xih e3 (by rw [e4];exact ymp r3.fx) hov hout h4 ha hR hway zcv hA.2;have r5:=zvz r4 ok3;rw [<- he,<- e1] at r5
 -- the other one
 have hg61:(List.replicate (zfy u) dum).length<=1000:=r4.lr.cs.few;have hge:zfy u≠0:=by
  unfold zfy;show ((u.out.map _)++_).length≠0;rw [zy4,zy3];have:=zy30.2 hout;omega
 have hends:ends (List.replicate (zfy u) dum)=0:=by
  unfold ends;rw [zy97.2 fun x hx=>by rw [zy51 hx];decide];rfl
 have hdr:(List.replicate (zfy u) dum++zif 0 1 B.length 0 B).drop (zfy u)=zif 0 1 B.length 0 B:=by
  have:(List.replicate (zfy u) dum).length=zfy u:=zy57;rw [zy115 (by omega),List.drop_eq_nil_iff.2 (by omega)];rfl
 have yoq:RS.new (zfy u)=⟨at1 (fun _=>0) 0 1,fun _=>[],[]⟩:=zy0 hge;have c2:yuf (zfy u) 1 65530 (List.replicate (zfy u) dum++zif 0 1 B.length 0 B):=by
  have hb:=zni (k:=0) (mid:=1) B.length 0 B;have h61:zfy u<=61:=by
   have h1:=e3.alen;have h2:=zni (k:=0) (mid:=0) A.length 0 A;unfold zfy;show ((u.out.map _)++(match u.todo with | []=>[] | _::_=>[(0,4)])).length<=61;rw [zy4,zy3];cases u.todo with
   | nil=>show u.out.length+0<=61;omega
   | cons _ _=>show u.out.length+1<=61;omega
  refine ⟨by rw [zy4,zy57];omega,fun x hx=>?_,by decide,by decide,?_,.inr rfl,.inl rfl,by rw [zy4,zy57];omega⟩
  . rcases zy10.1 hx with hx | hx
    . exact r4.lr.cs.zeh x hx
    . exact zpn zz5 zz5 _ _ _ zz0 hB.1 x hx
  . rw [hdr,yoq]
    exact ycm zz5 hB rfl rfl zz5
 have hok5:(GM.send (GM.zfc (GM.zdt u)) (GM.cut B.length)).ok=true:=by
  have:=ok4;unfold GM.zaz GM.yxg at this;rw [hu] at this;exact this
 have r6:LX (yxu [1,0] 0) (zkg 65530) (1+1) 1 ((m+1:Nat):Int) (1+1) (zfy u) 1 65530 100000 1 (List.replicate (zfy u) dum++zif 0 1 B.length 0 B) (doS (doS (zfq (zfq l0 (zee m)).1 (List.replicate 8 (stp 3))).1 (stp 5)).1 ⟨1,0,sm 0 0 B⟩).1 (GM.send (GM.zfc (GM.zdt u)) (GM.cut B.length)) :=
  ydw r5 (st:=0) (life:=0) (D:=B) (mid:=1) rfl zz5 ⟨by decide,by decide,.inl ⟨rfl,rfl⟩⟩ hB (by rw [hends];decide) zz5 rfl c2 hok5
 have hwl:(GM.zaz m A.length).out.length=zfy u:=by
  unfold GM.zaz GM.yxg;rw [hu];exact xat u
 rw [hwl] at hev;unfold GM.zaz GM.yxg at hev;rw [hu] at hev;obtain ⟨k2,r7⟩:=zxs 400 r6 rfl zz0 hev;obtain ⟨x1,x2,x3,x4,x5⟩:=yod hev;obtain ⟨y1,y2,y3⟩:=r7.log x2 x3 x5;have p1:(zfq (zic (zkg 65530)) (yxi (m+1) A B)).1=(doS (zfq (zic (zkg 65530)) ([⟨1,0,sm 0 ((m+1:Nat):Int) A⟩]++zee (m+1))).1 ⟨1,0,sm 0 0 B⟩).1:=(zmv ([⟨1,0,sm 0 ((m+1:Nat):Int) A⟩]++zee (m+1)) [⟨1,0,sm 0 0 B⟩] (zic (zkg 65530))).trans (zxg _ _);have p2:=zmv [⟨1,0,sm 0 ((m+1:Nat):Int) A⟩] (zee (m+1)) (zic (zkg 65530));have p3:(zfq (zic (zkg 65530)) [⟨1,0,sm 0 ((m+1:Nat):Int) A⟩]).1=l0:=(zxg _ _).trans hl0;have p4:(zfq l0 (zee (m+1))).1=(zfq (zfq l0 (zee m)).1 zub).1:=zmv (zee m) zub l0;have p5:=yid (zfq l0 (zee m)).1;have hplay:(zfq (zic (zkg 65530)) (yxi (m+1) A B)).1=(doS (doS (zfq (zfq l0 (zee m)).1 (List.replicate 8 (stp 3))).1 (stp 5)).1 ⟨1,0,sm 0 0 B⟩).1:=by
  rw [p1,p2,p3,p4,p5];unfold zpr;exact Eq.refl _
 rw [hplay];have key:∀ F:List Int,F[0]?=some 3->F[1]?=some 2->F.length=2->F=[3,2]:=by
  intro F z1 z2 z3
  match F,z3 with
  | [x,y],_ =>
   have e1:x=3:=by simpa using z1
   have e2:y=2:=by simpa using z2
   rw [e1,e2]
 refine ⟨y1.trans ?_,key _ (r7.fx.three 0 zz5) (r7.fx.all y2 y3 (id:=1) zz5 zz5) r7.fx.len⟩;rw [hdr,ymb _ _ _ _ (zy19 _) hB.1,yoq];rfl
end Tp
namespace Tp
open Ser Snd Ln
def xnq (a:List Step):zad:=.live (.row 50 7 (a.map Step.row))
theorem zsq:∀ j,(zee j).length=9*j
 | 0=>rfl
 | j+1=>by
  rw [zee,zy4,zsq j];show 9*j+9=_;omega
theorem xiw (life:Int) (a b:ByteArray):zao Tryz.prog 17 [i64 life,xlp a,xlp b] zaf (zbm true) zaf:=by
 have qa:=yaz a;have qb:=yaz b;refine zap mixed Tryz.func17 zz5 ?_;(conv=>whnf)
 (refine cP ?_;refine dL ytg ?_)
 by_cases c1:life<1
 . rw [show decide (life<1)=true from zy12 c1]
   conv=>whnf
   try rfl
 rw [show decide (life<1)=false from zy20 c1];(conv=>whnf);by_cases c2:life>20
 . rw [show decide (life>20)=true from zy12 c2]
   conv=>whnf
   try rfl
 rw [show decide (life>20)=false from zy20 c2];(conv=>whnf)
 (refine cP ?_;refine dL qa ?_)
 by_cases ha:1<=a.size/\a.size<=60
 case neg =>
  rw [show decide (1<=a.size/\a.size<=60)=false from zy20 ha];(conv=>whnf)
  try rfl
 rw [show decide (1<=a.size/\a.size<=60)=true from zy12 ha];(conv=>whnf)
 (refine cP ?_;refine dL qb ?_)
 by_cases hb:1<=b.size/\b.size<=60
 case neg =>
  rw [show decide (1<=b.size/\b.size<=60)=false from zy20 hb];(conv=>whnf)
  try rfl
 rw [show decide (1<=b.size/\b.size<=60)=true from zy12 hb];(conv=>whnf);cases hab:a.toList==b.toList with
 | true =>
  conv=>whnf
  try rfl
 | false =>
 (conv=>whnf);obtain ⟨t,rfl⟩:∃ t:Nat,life=t:=⟨life.toNat,by omega⟩
 have ht:1<=t/\t<=20:=by omega
 have q1:=zmz 0 t a ha.2
 (refine cP ?_;refine dL q1 ?_)
 refine ⟨{x:Nat×List Step // x.1<=t/\x.2=[stm 0 t a]++zee x.1},fun | ⟨(j,z),_⟩=>hs 120 [(2,xlp b),(7,.own 900),(42,i64 t),(43,i64 j)] [(900,xnq z)],fun j=>t-j.1.1,⟨(0,[stm 0 t a]),zy92 _,rfl⟩,?_,?_⟩
 . exact (zem [(900,some 41)])
 rintro ⟨⟨j,z⟩,hj,hz⟩;dsimp only at hj hz;refine zhm fun Q hQ=>?_
 (conv=>whnf);by_cases hjt:j=t
 case neg =>
  refine zai (zy12 zz0) (zw ?_);refine ⟨{x:Nat×List Step // x.1<=8/\x.2=z++List.replicate x.1 (stp 3)},fun | ⟨(i,w),_⟩=>hs 120 [(2,xlp b),(7,.own 901),(42,i64 t),(43,i64 j),(45,i64 i)] [(901,xnq w)],fun j=>8-j.1.1,⟨(0,z),zy92 _,by simp⟩,?_,?_⟩
  . exact (zem [(901,some 900)])
  rintro ⟨⟨i,w⟩,hi,hw⟩;dsimp only at hi hw;refine zhm fun Q2 hQ2=>?_
  (conv=>whnf);have hwl:w.length=1+9*j+i:=by rw [hw,hz,zy4,zy4,zsq,zy57];rfl
  by_cases hi8:i=8
  case neg =>
   refine zai (zy12 zz0) (zw ?_);refine zaa zz56 ?_;(conv=>whnf);refine sF ?_;refine hQ2 _ _ (zw ?_);exact ⟨⟨(i+1,w++[stp 3]),by dsimp only;omega,by dsimp only;rw [hw,List.replicate_succ',zy24]⟩,(zcy [(901,some 50)] zz34),by show 8-(i+1)<8-i;omega⟩
  refine zah (zy20 zz0) (zw ?_);refine hQ2 _ _ (zw ?_);refine zaa zz56 ?_;(conv=>whnf);refine sF ?_;refine hQ _ _ ?_;conv=>whnf
  exact ⟨⟨(j+1,w++[stp 5]),by dsimp only;omega,by
   dsimp only;rw [hw,hi8,hz,zee];unfold zub zpr;rw [zy24,zy24]
   try rw [zy24]⟩,(zcy [(900,some 55)] zz34),by show t-(j+1)<t-j;omega⟩
 refine zah (zy20 zz0) (zw ?_);refine hQ _ _ ?_;conv=>whnf
 have q2:=zmz 0 0 b hb.2
 (refine cP ?_;refine dL q2 ?_)
 have hzl:z.length=1+9*t:=by rw [hz,hjt,zy4,zsq];rfl
 refine zaa (by show ((z.map Step.row).length+1)*72<=140737488355328;rw [zy3,hzl];omega) ?_;(conv=>whnf);have q0:=zxv 1 1
 (refine cP ?_;refine dL q0 ?_)
 have zun:∀ r,r=(stm 0 0 b).row->z.map Step.row++[r]=(z++[stm 0 0 b]).map Step.row:=by
  rintro r rfl;rw [zy40];rfl
 rw [zun]
 rotate_left
 . rfl
 have hyl:(z++[stm 0 0 b]).length<=200:=by rw [zy4,hzl];show 1+9*t+1<=200;omega
 generalize hy:z++[stm 0 0 b]=y at hyl;rw [show (if (200:Int)<((y.map Step.row).length:Int) then (200:Int) else ((y.map Step.row).length:Int))=(y.length:Int) by rw [zy3,zy0 (by omega)]];refine zaa ⟨zy80 _,by omega,by rw [zy3];exact zy80 _⟩ (zw ?_);refine zep ?_;(conv=>whnf);refine ⟨y.map Step.row,by simp only [Int.sub_zero,zy38,Int.toNat_zero,zy142];exact (zy34 (by rw [zy3];exact zy19 _)).symm,by simp,zw ?_⟩;have hyL:y=yxi t (bs a) (bs b):=by rw [<- hy,hz,hjt];rfl
 have hw:zob (zkg 65530)=0:=by decide
 have p0:=yjm (zkg 65530) y (fun x hx=>by
  rw [<- hy,hz] at hx;have hu:∀ j,∀ x∈zee j,x.message.data.length<2 ^ 38:=by
   intro j
   induction j with
   | zero=>intro x hx;cases hx
   | succ j ih =>
    intro x hx;rcases zy10.1 (show x∈zee j++zub from hx) with hx | hx
    . exact ih x hx
    . rcases zy10.1 (show x∈zpr++[stp 5] from hx) with hx | hx
      . rw [zy51 hx];decide
      . rw [zy7] at hx;subst hx;decide
  rcases zy10.1 hx with hx | hx
  . rcases zy10.1 hx with hx | hx
    . rw [zy7] at hx;subst hx
      show (bs a).length<_;rw [yna];omega
    . exact hu j x hx
  . rw [zy7] at hx;subst hx
    show (bs b).length<_;rw [yna];omega)
 rw [yqa hw hyl] at p0;obtain ⟨hli,hsl⟩:=yxm hw y hyl;have p1:=zdz (zfq (zic (zkg 65530)) y).1 hli hsl zz0 zz0;have hpl:=ydm y (zic (zkg 65530));obtain ⟨hl1,hl2⟩:=xcz ht (A:=bs a) (B:=bs b) (by rw [yna];exact ha) (by rw [yna];exact hb);rw [<- hyL] at hl1 hl2;have hy1:1<=y.length:=by rw [<- hy,zy4];show 1<=_+1;omega
 generalize zfq (zic (zkg 65530)) y=X at p0 p1 hl1 hl2 hpl;generalize zfb 400 X.1=T at p1 hl1 hl2;obtain ⟨X,az⟩:=X;obtain ⟨T,n⟩:=T;dsimp only at p0 p1 hl1 hl2 hpl;refine ⟨_,p0,rfl,zw ?_⟩;refine sD ?_;rw [show decide (((az.map Answer.row).length:Int)<1)=false from zy20 (by rw [zy3];omega)];(conv=>whnf)
 (refine cP ?_;refine dL p1 ?_)
 rw [show (((T.sender.fates.map fun n:Int=>[pi n]).length:Int)==2)=true by rw [zy3,hl2];rfl];(conv=>whnf);refine zbz (r:=[pi 3]) zz5 (by rw [hl2];rfl) (zw ?_);refine zbz (r:=[pi 2]) zz5 (by rw [hl2];rfl) (zw ?_);rw [show (((T.receiver.log.map zcr.row).length:Int)==1)=true by rw [zy3,hl1];rfl];(conv=>whnf);refine zbz (r:=(⟨0,1,true,bs b⟩:zcr).row) zz5 (by rw [hl1];rfl) (zw ?_);refine ygg (bs:=bs b) rfl (zw ?_);rw [xpz]
 try rfl
end Tp
end Go.HL
