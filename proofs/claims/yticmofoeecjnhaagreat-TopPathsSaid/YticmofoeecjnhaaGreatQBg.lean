/- Walks, contracts and laws of the law's functions: part 7. No condition. -/
import Derived.Test.YticmofoeecjnhaaGreatQBf
open Go.Proofs
set_option maxHeartbeats 32000000
set_option maxRecDepth 100000
set_option linter.unusedSimpArgs false
theorem yy3 {P:Prop} (h:P:=by
 rw [hm,zqt hne] at hg;generalize hGE:GM.zgr 100 g=GE at hg;have hok1:=zpp (zjs m zz88);have hoke:GE.ok=true:=GM.zcy hok1;have hway:GE.way=[]:=zy72.1 (GM.zgc hok1);refine ⟨{x:Nat×zdg×GM // x.1<=100/\PX (bs s) i x.2.1 x.2.2/\GM.zgr (100-x.1) x.2.2=GE/\LI (1+101*i+x.1) (120+12120*i+120*x.1) x.2.1},fun | ⟨(_,y,_),_⟩=>hs 109 [(0,xfv s),(4,.ptr 4 0),(30,i64 i)] [(4,lnL y)],fun x=>100-x.1.1,⟨(0,y,g),zy101 _,hx,hGE,hli⟩,?_,?_⟩
 . exact (zdi [(4,some 4)])
 rintro ⟨⟨j,z,u⟩,hj,hz,hu,hzi⟩;dsimp only at hj hz hu hzi;refine zge fun Q2 hQ2=>?_
 (conv=>whnf);obtain ⟨-,-,w3⟩:=hz.calm;by_cases c1:z.way=[]
 case pos =>
  refine zag (by rw [zy2,c1];rfl) (zw ?_);refine hQ2 _ _ (zw ?_);have hu2:u=GE:=by
   have hw:=w3.1 c1;cases hq:100-j with
   | zero=>rw [hq] at hu;exact hu
   | succ q=>rw [hq,GM.zgr,hw] at hu;exact hu
  subst hu2;have q4:=zjh z (stp 5) hzi zz0 zz0 zz4;have hli2:=zio hzi (stp 5) zz0 zz0;have hx2:=yji (hz.setok (u.ok&&u.way.isEmpty)) (two:=true) rfl zz0 (fun _=>hway) (zjs m zz88);generalize doS z (stp 5)=D at q4 hx2 hli2;obtain ⟨D1,D2⟩:=D;dsimp only at q4 hx2 hli2
  (refine cP ?_;refine dL q4 ?_)
  refine sF ?_;refine hQ _ _ ?_;conv=>whnf
  exact ⟨⟨(i+1,D1,_),by dsimp only;omega,hx2,by dsimp only;rw [show 150-(i+1)=m by omega];exact hg,⟨hli2.snd.mono zz16 zz16,hli2.rcv.more zz16,by dsimp only;omega,hli2.way,hli2.bytes⟩⟩,(zdi [(4,some 4)]),by show 150-(i+1)<150-i;omega⟩
 obtain ⟨p,v,hv⟩:=List.exists_cons_of_ne_nil c1;refine zai (zy15 zz75) (zw ?_)
 (try refine sG ?_)
 refine zbt (r:=p.row) zz4 (by rw [hv];rfl) (zw ?_);have hp:=hz.path (p:=p) (by rw [hv];rfl);have huw:u.way≠[]:=fun h=>c1 (w3.2 h)
 have hj100:j≠100:=fun h=>by
  rw [h] at hu;have hu:u=GE:=hu;rw [hu] at huw;exact huw hway
 obtain ⟨q,hq⟩:∃ q,100-j=q+1:=⟨100-j-1,by omega⟩
 rw [hq,zpx huw] at hu;have hok2:=zoj q (by rw [hu];exact hoke);by_cases c2:u.act=0
 . rw [GM.zew c2] at hu hok2
   refine zai zz68 (zw ?_);have q5:=zjh z (stp 3) hzi zz0 zz0 zz4;have hli3:=zio hzi (stp 3) zz0 zz0;have hx3:=(yrb hz huw hok2)
   have he:=ykw (k:=3) (.inr rfl) c1;generalize doS z (stp 3)=D at q5 hx3 hli3 he;obtain ⟨D1,D2⟩:=D;dsimp only at q5 hx3 hli3 he;subst he
   (refine cP ?_;refine dL q5 ?_)
   rw [show decide (((D1.way.map zaz.row).length:Int)>40)=false from zy18 (by rw [zy2];have:=hli3.way;omega)];(conv=>whnf);refine hQ2 _ _ (zw ?_);exact ⟨⟨(j+1,D1,_),by dsimp only;omega,hx3,by dsimp only;rw [show 100-(j+1)=q by omega];exact hu,⟨hli3.snd.mono zz16 zz16,hli3.rcv.more zz16,by dsimp only;omega,hli3.way,hli3.bytes⟩⟩,(zdi [(4,some 4)]),by show 100-(j+1)<100-j;omega⟩
 . rw [GM.zgp c2] at hu hok2
   refine zag zz60 (zw ?_);have q5:=zjh z (stp 2) hzi zz0 zz0 zz4;have hli3:=zio hzi (stp 2) zz0 zz0;have hx3:=(yhe hz huw hok2)
   have he:=ykw (k:=2) (.inl rfl) c1;generalize doS z (stp 2)=D at q5 hx3 hli3 he;obtain ⟨D1,D2⟩:=D;dsimp only at q5 hx3 hli3 he;subst he
   (refine cP ?_;refine dL q5 ?_)
   rw [show decide (((D1.way.map zaz.row).length:Int)>40)=false from zy18 (by rw [zy2];have:=hli3.way;omega)];(conv=>whnf);refine hQ2 _ _ (zw ?_);exact ⟨⟨(j+1,D1,_),by dsimp only;omega,hx3,by dsimp only;rw [show 100-(j+1)=q by omega];exact hu,⟨hli3.snd.mono zz16 zz16,hli3.rcv.more zz16,by dsimp only;omega,hli3.way,hli3.bytes⟩⟩,(zdi [(4,some 4)]),by show 100-(j+1)<100-j;omega⟩):P:=h
theorem yy22 {P:Prop} (h:P:=by
 subst e;obtain ⟨z1,z2⟩:=xbm hA hx out0 todo0 R0;rw [show (((y.receiver.log.map zcp.row).length:Int)==1)=true by rw [zy2,z1];rfl];(conv=>whnf);refine zbt (r:=(⟨0,0,true,bs s⟩:zcp).row) zz4 (by rw [z1];rfl) (zw ?_);refine zrr (bs:=bs s) rfl (zw ?_);rw [xge];(conv=>whnf);rw [show (((y.sender.fates.map fun n:Int=>[pi n]).length:Int)==1)=true by rw [zy2,z2];rfl];(conv=>whnf);refine zbt (r:=[pi 2]) zz4 (by rw [z2];rfl) (zw ?_)
 try rfl):P:=h
namespace Go.HL
namespace Tp
namespace GM
theorem yzf:∀ (a:Nat),a<60->zbe (a+1)=true
 | 0,h=>pa0
 | 1,h=>pa1
 | 2,h=>pa2
 | 3,h=>pa3
 | 4,h=>pa4
 | 5,h=>pa5
 | 6,h=>pa6
 | 7,h=>pa7
 | 8,h=>pa8
 | 9,h=>pa9
 | 10,h=>xjh
 | 11,h=>xji
 | 12,h=>xjj
 | 13,h=>xjk
 | 14,h=>xjl
 | 15,h=>xjm
 | 16,h=>xjn
 | 17,h=>xjo
 | 18,h=>xjp
 | 19,h=>xjq
 | 20,h=>xjr
 | 21,h=>xjs
 | 22,h=>xjt
 | 23,h=>xju
 | 24,h=>xjv
 | 25,h=>xjw
 | 26,h=>xjx
 | 27,h=>xjy
 | 28,h=>xjz
 | 29,h=>xka
 | 30,h=>xkb
 | 31,h=>xkc
 | 32,h=>xkd
 | 33,h=>xke
 | 34,h=>xkf
 | 35,h=>xkg
 | 36,h=>xkh
 | 37,h=>xki
 | 38,h=>xkj
 | 39,h=>xkk
 | 40,h=>xkl
 | 41,h=>xkm
 | 42,h=>xkn
 | 43,h=>xko
 | 44,h=>xkp
 | 45,h=>xkq
 | 46,h=>xkr
 | 47,h=>xks
 | 48,h=>xkt
 | 49,h=>xku
 | 50,h=>xkv
 | 51,h=>xkw
 | 52,h=>xkx
 | 53,h=>xky
 | 54,h=>xkz
 | 55,h=>xla
 | 56,h=>xlb
 | 57,h=>xlc
 | 58,h=>xld
 | 59,h=>xle
 | n+60,h=>absurd h zz0
end GM
end Tp
namespace Tp
open Ser Snd Ln
section
variable {E:List Int} {c:Config} {n d N h S:Nat} {k f T:Int} {P:Nat} {Cs:List CH} {l:zdg} {g:GM}
theorem LX.setok (r:LX E c n d k N h S f T P Cs l g) (o:Bool):LX E c n d k N h S f T P Cs l {g with ok:=o}:=by
 obtain ⟨⟨a1,a2,a3,a4,a5,a6,a7,a8,a9,a10⟩,b1,b2,b3⟩:=r;exact ⟨⟨a1,a2,a3.other' g.R g.way o,a4,a5,a6,a7,a8,a9,a10⟩,b1,b2,b3⟩
theorem LX.calm (r:LX E c n d k N h S f T P Cs l g):(l.sender.out=[]↔g.out=[])/\(l.sender.queue=[]↔g.todo=[])/\(l.way=[]↔g.way=[]):=by
 refine ⟨?_,?_,?_⟩
 . rw [<- zy42,<- zy42,r.lr.sr.len]
 . have h1:=r.lr.sr.rest
   exact yy59
 . rw [<- zy42,<- zy42,r.lr.way.len]
theorem LX.path (r:LX E c n d k N h S f T P Cs l g) {p:zaz} (hp:l.way[0]?=some p):p.path=(g.act:Int):=by
 have hw:=r.lr.way;cases hl:l.way with
 | nil=>rw [hl] at hp;cases hp
 | cons q v =>
  rw [hl] at hw hp;have:q=p:=by simpa using hp
  subst this;cases hg:g.way with
  | nil=>rw [hg] at hw;cases hw
  | cons gp w =>
   rw [hg] at hw;cases hw with
   | cons hh _ =>
    cases gp with
    | data m=>exact hh.2.1
    | zfl z=>exact hh.2.1
theorem ykw {k:Int} (hk:k=2\/k=3) (hw:l.way≠[]):(doS l (stp k)).2=⟨0,0⟩:=by
 cases hl:l.way with
 | nil=>exact absurd hl hw
 | cons p v =>
  have h1:¬ (stp k).kind=1:=by rcases hk with rfl | rfl<;>decide
  have h2:(stp k).kind=2\/(stp k).kind=3\/(stp k).kind=4:=by rcases hk with rfl | rfl;exact .inl rfl;exact .inr (.inl rfl)
  have h3:¬ (stp k).n<0:=show ¬ (0:Int)<0 by decide
  have h4:¬ (stp k).kind=4:=by rcases hk with rfl | rfl<;>decide
  unfold doS;rw [zy0 h1,zy1 h2,zy0 h3];have h5:l.way[(stp k).n.toNat]?=some p:=by rw [hl];rfl
  rw [h5];show (if (stp k).kind=4 then _ else _:zdg×Answer).2=_;rw [zy0 h4]
end
theorem yxc {g:GM} (hok:(GM.drop g).ok=true):g.ok=true:=by
 unfold GM.drop at hok;split at hok
 . exact hok
 . have:=ziv hok
   exact this
theorem zpx {k:Nat} {g:GM} (hw:g.way≠[]):GM.zgr (k+1) g=GM.zgr k (bif Nat.beq g.act 0 then GM.drop g else GM.zfs 0 g):=by
 cases hg:g.way with
 | nil=>exact absurd hg hw
 | cons p w=>rw [GM.zgr,hg]
theorem zoj:∀ (k:Nat) {g:GM},(GM.zgr k g).ok=true->g.ok=true
 | 0,_,h=>h
 | k+1,g,h=>by
  cases hg:g.way with
  | nil=>rw [GM.zgr,hg] at h;exact h
  | cons p w =>
   rw [zpx (by rw [hg];simp)] at h;have:=zoj k h;cases hb:Nat.beq g.act 0 with
   | true=>rw [hb] at this;exact yxc this
   | false=>rw [hb] at this;exact yjx this
theorem zqt {k:Nat} {g:GM} (hw:¬ (g.out=[]/\g.todo=[])):GM.zgh (k+1) g=GM.zgh k (GM.tick true {GM.zgr 100 g with ok:=(GM.zgr 100 g).ok&&(GM.zgr 100 g).way.isEmpty}):=by
 rw [GM.zgh];have:(g.out.isEmpty&&g.todo.isEmpty)=false:=by
  cases hb:(g.out.isEmpty&&g.todo.isEmpty) with
  | false=>rfl
  | true=>exact absurd ⟨zy72.1 (GM.zcy hb),zy72.1 (GM.zgc hb)⟩ hw
 rw [this];rfl
theorem zyc {k:Nat} {g:GM} (hw:g.out=[]/\g.todo=[]):GM.zgh k g=g:=by
 cases k with
 | zero=>rfl
 | succ k=>rw [GM.zgh,hw.1,hw.2];rfl
theorem zjs:∀ (k:Nat) {g:GM},(GM.zgh k g).ok=true->g.ok=true
 | 0,_,h=>h
 | k+1,g,h=>by
  by_cases hw:g.out=[]/\g.todo=[]
  . rw [zyc hw] at h;exact h
  . rw [zqt hw] at h
    have:=zpp (zjs k h);exact zoj 100 (GM.zcy this)
def yqw:Config:=⟨1,4,60,2,1,12,65530⟩
def xdx (A:List UInt8):zdg:=(doS (zov yqw) ⟨1,0,sm 0 0 A⟩).1
abbrev PX (A:List UInt8) (k:Int) (l:zdg) (g:GM):Prop:=LX [1,0] yqw 1 0 k 1 0 1 65530 100000 2 (zlf 0 0 A.length 0 A) l g
theorem yyg {A:List UInt8} (hA:1<=A.length/\A.length<=60):PX A 0 (xdx A) (GM.send (GM.new []) (GM.cut A.length))/\(GM.zgh 150 (GM.send (GM.new []) (GM.cut A.length))).ok=true/\(GM.zgh 150 (GM.send (GM.new []) (GM.cut A.length))).out=[]/\(GM.zgh 150 (GM.send (GM.new []) (GM.cut A.length))).todo=[]/\(GM.zgh 150 (GM.send (GM.new []) (GM.cut A.length))).R=(GM.zgh 150 (GM.send (GM.new []) (GM.cut A.length))).a:=by
 have hev:=GM.yzf (A.length-1) zz0;rw [show A.length-1+1=A.length by omega] at hev;unfold GM.zbe at hev;have e1:=GM.zcy (GM.zcy (GM.zcy hev));have e2:=zy72.1 (GM.zgc (GM.zcy (GM.zcy hev)));have e3:=zy72.1 (GM.zgc (GM.zcy hev));have e4:=zy4 (GM.zgc hev);refine ⟨?_,e1,e2,e3,e4⟩;have r0:LX [0,0] yqw 0 0 0 0 0 1 65530 100000 2 [] (zov yqw) (GM.new []):=xbb (c:=yqw) zz4 (.inl rfl) rfl rfl rfl rfl (.inl rfl) ⟨by decide,by decide⟩;have c1:=xhb (S:=1) (k:=0) (f:=65530) zz4 (.inl rfl) hA ⟨by decide,by decide⟩ rfl;exact ymx r0 (st:=0) (life:=0) (D:=A) (mid:=0) rfl zz4 ⟨by decide,by decide,.inl ⟨rfl,rfl⟩⟩ hA zz4 zz4 rfl c1 (zjs 150 e1)
theorem xbm {A:List UInt8} (hA:1<=A.length/\A.length<=60) {k:Int} {l:zdg} {g:GM} (r:PX A k l g) (h1:g.out=[]) (h2:g.todo=[]) (h3:g.R=g.a):l.receiver.log=[⟨0,0,true,A⟩]/\l.sender.fates=[2]:=by
 obtain ⟨e1,e2,e3⟩:=r.log h2 h1 h3;refine ⟨?_,?_⟩
 . rw [e1]
   show ((RS.new 0).run (zlf 0 0 A.length 0 A)).lg=_;rw [yiu _ _ _ _ (zy20 _) hA.1];rfl
 . have hf:=r.fx.all e2 e3 (id:=0) zz4 zz4
   have hl:=r.fx.len
   match hfs:l.sender.fates,hl with
   | [x],_ =>
    rw [hfs] at hf;have:x=2:=by simpa using hf
    rw [this]
end Tp
namespace Tp
open Ser Snd Ln
theorem yzg (s:ByteArray):zao Tryz.prog 18 [xfv s] zae (zbl true) zae:=by
 have qs:=ypu s;refine zap mixed Tryz.func18 zz4 ?_;(conv=>whnf)
 (refine cP ?_;refine dL ypg ?_)
 (refine cP ?_;refine dL qs ?_)
 by_cases ha:1<=s.size/\s.size<=60
 case neg =>
  rw [show decide (1<=s.size/\s.size<=60)=false from zy18 ha];(conv=>whnf)
  try rfl
 rw [show decide (1<=s.size/\s.size<=60)=true from zy15 ha];(conv=>whnf);have hA:1<=(bs s).length/\(bs s).length<=60:=by rw [xgf];exact ha
 have q0:=zvm 1 1;have q1:=zvr yqw;rw [show yel yqw=(zov yqw,0) from zy1 (by decide)] at q1;have q2:=zpk 0 0 s ha.2;have hli0:=yap (c:=yqw) zz4;have hd:(stm 0 0 s).message.data.length<2 ^ 38:=by show (bs s).length<_;omega
 have q3:=zjh (zov yqw) (stm 0 0 s) hli0 zz4 zz4 hd;have hli1:=zio hli0 (stm 0 0 s) zz4 zz4;obtain ⟨px,ok0,out0,todo0,R0⟩:=yyg hA;rw [show (doS (zov yqw) (stm 0 0 s)).1=xdx (bs s) from rfl] at q3 hli1;generalize xdx (bs s)=l0 at px q3 hli1;generalize GM.send (GM.new []) (GM.cut (bs s).length)=g0 at px ok0 out0 todo0 R0;generalize hGF:GM.zgh 150 g0=GF at ok0 out0 todo0 R0
 (refine cP ?_;refine dL q0 ?_)
 (refine cP ?_;refine dL q1 ?_)
 (refine cP ?_;refine dL q2 ?_)
 (refine cP ?_;refine dL q3 ?_)
 refine sD ?_;refine ⟨{x:Nat×zdg×GM // x.1<=150/\PX (bs s) x.1 x.2.1 x.2.2/\GM.zgh (150-x.1) x.2.2=GF/\LI (1+101*x.1) (120+12120*x.1) x.2.1},fun | ⟨(i,y,g),_⟩=>hs 109 [(0,xfv s),(4,.ptr 4 0),(30,i64 i)] [(4,lnL y)],fun x=>150-x.1.1,⟨(0,l0,g0),zy101 _,px,hGF,hli1⟩,?_,?_⟩
 . exact (zdi [(4,some 4)])
 rintro ⟨⟨i,y,g⟩,hi,hx,hg,hli⟩;dsimp only at hi hx hg hli;refine zge fun Q hQ=>?_
 (conv=>whnf);by_cases hi150:i=150
 case pos =>
  refine zag (zy18 zz0) (zw ?_);refine hQ _ _ ?_;conv=>whnf
  have e:g=GF:=by rw [<- hg,hi150];rfl
  exact yy22
 refine zai (zy15 zz0) (zw ?_);obtain ⟨m,hm⟩:∃ m,150-i=m+1:=⟨150-i-1,by omega⟩
 obtain ⟨k1,k2,k3⟩:=hx.calm;by_cases e1:y.sender.out=[]
 case pos =>
  rw [show (((y.sender.out.map zbs.row).length:Int)==0)=true by rw [zy2,e1];rfl];(conv=>whnf);by_cases e2:y.sender.queue=[]
  case pos =>
   rw [show (((y.sender.queue.map zaf.row).length:Int)==0)=true by rw [zy2,e2];rfl];(conv=>whnf);refine hQ _ _ ?_;conv=>whnf
   have e:g=GF:=by rw [<- hg,zyc ⟨k1.1 e1,k2.1 e2⟩]
   exact yy22
  rw [show (((y.sender.queue.map zaf.row).length:Int)==0)=false by rw [zy2];exact zy17.2 (fun h=>e2 (zy42.1 zz0))];(conv=>whnf);have hne:¬ (g.out=[]/\g.todo=[]):=fun h=>e2 (k2.2 h.2)
  exact yy3
 rw [show (((y.sender.out.map zbs.row).length:Int)==0)=false by rw [zy2];exact zy17.2 (fun h=>e1 (zy42.1 zz0))];(conv=>whnf);have hne:¬ (g.out=[]/\g.todo=[]):=fun h=>e1 (k1.2 h.1)
 exact yy3
end Tp
end Go.HL
